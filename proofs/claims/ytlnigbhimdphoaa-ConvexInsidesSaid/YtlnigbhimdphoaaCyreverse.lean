/- slices.Reverse of spots in a row of the call's own. -/
import Derived.Test.YtlnigbhimdphoaaCx0
import Derived.Test.YtlnigbhimdphoaaCysortspots
import Derived.Shelf.SlicesQ.Reverse
import Derived.Test.YtlnigbhimdphoaaLay
namespace Go.Proofs.Ytlnigbhimdphoaa.C
open Go.RowKit Go.Proofs.YtlnigbhimdphoaaW.PrintWords Go.Proofs.YtlnigbhimdphoaaW.PrintLast Go.Proofs.YtlnigbhimdphoaaW.PrintMore
set_option linter.unusedVariables false
set_option linter.unusedSimpArgs false
open Go Go.RowKit Go.Shelf Go.Lib Go.Sort Go.Proofs.Ytlnigbhimdphoaa.SortGen
def reverse_spots.f (l0 : List S30) : Option (List S30) := if l0.length < 9223372036854775807 then some l0.reverse else none
theorem reverse_spots.calls (P0_ : Nat → Prop) (u9000_ : Value) (l0 : List S30) (r : List S30) (w0 w : World) (hB : Below w0.heap.size w0 w) (ho0 : Kd.R k30 30 w w0.heap.size P0_ u9000_ l0) (h : reverse_spots.f l0 = some r) :
    Calls Try.prog 42 #[u9000_] w fun e w' => e = .returned (.tuple #[]) ∧ Kd.R k30 30 w' w0.heap.size (fun k_ => (P0_ k_ ∨ w.heap.size ≤ k_)) u9000_ r ∧ Below w0.heap.size w0 w' ∧ Kept w w' (fun k_ => P0_ k_) := by
  unfold reverse_spots.f at h
  split at h
  · rename_i hl
    injection h with h
    subst h
    rcases own_cases (l := l0) flatSpot (by decide) id (by simpa using ho0) with ⟨rfl, rfl⟩ | ⟨gb, cap, cur, rfl, hge, hlt, hP, hnc, hcm, hh, hcs, hH⟩
    · have hc := AnyQ.slices_Reverse_empty Try.lrev none 0 w
      change Calls Try.prog 42 _ _ _ at hc
      refine hc.mono ?_
      rintro e w' ⟨rfl, rfl⟩
      exact ⟨rfl, Kd.R_nil _ _ _ _ _, hB, Kept.refl _ _⟩
    · have hc := AnyQ.slices_Reverse Try.lrev 2 Try.isAgg30 Try.sizeOf30 encSpot (fun _ => rfl) flatSpot.one gb 0 cap l0.toArray w hH (by simp; omega)
      change Calls Try.prog 42 _ _ _ at hc
      simp only [List.size_toArray] at hc
      refine hc.mono ?_
      rintro e w' ⟨rfl, n, hw⟩
      have e1 : w' = sortWorldK (fun x => encSpot (id x)) k30.sz w gb 0 n l0.toArray.reverse #[] := by
        rw [hw]
        unfold sortWorldK
        rw [grow_empty]
        rfl
      rw [e1]
      have := own_after (e := 30) flatSpot (by decide) id (n := n) #[] l0.toArray.reverse hB (by simp : l0.toArray.reverse.size = l0.length) hge hP hnc hcm hh hcs
      simp only [Array.toList_reverse, List.map_id_fun, id_eq] at this
      exact ⟨rfl, by simpa using this⟩
  · exact absurd h (by simp)

end Go.Proofs.Ytlnigbhimdphoaa.C
