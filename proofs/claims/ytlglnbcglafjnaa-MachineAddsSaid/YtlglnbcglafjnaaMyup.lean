/- machine.Up: no stop of the machine covers the time. Its closure (captured: machine, at) is walked once; slices.ContainsFunc by the shelf's contract. -/
import Derived.Test.YtlglnbcglafjnaaMx0
import Derived.Test.YtlglnbcglafjnaaMysortdowns
import Derived.Test.YtlglnbcglafjnaaSortGen
import Derived.Test.YtlglnbcglafjnaaLay
import Derived.Shelf.SlicesQ.IndexFunc
namespace Go.Proofs.Ytlglnbcglafjnaa.M
open Go.RowKit Go.Proofs.YtlglnbcglafjnaaW.PrintWords Go.Proofs.YtlglnbcglafjnaaW.PrintLast Go.Proofs.YtlglnbcglafjnaaW.PrintMore
set_option linter.unusedVariables false
set_option linter.unusedSimpArgs false
open Go Go.RowKit Go.Shelf Go.Lib Go.Proofs.Ytlglnbcglafjnaa.SortGen

def covers (m t : Int) (d : S36) : Bool := d.f0 == m && (decide (d.f1 ≤ t) && decide (t < d.f2))
def machine_Up.f (l0 : List S36) (a1 a2 : Int) : Option Bool := some (!(l0.any (covers a1 a2)))

theorem Up_pred (m t : Int) (B1 B2 : Nat) (w : World) (h1 : B1 < w.heap.size) (h2 : B2 < w.heap.size) (c1 : w.cell? ⟨B1, 0, none⟩ = some (.int .i64 m)) (c2 : w.cell? ⟨B2, 0, none⟩ = some (.int .i64 t)) :
    PredBelow Try.prog 21 #[.pointer (some ⟨B1, 0, none⟩), .pointer (some ⟨B2, 0, none⟩)] (fun x => .agg (encDown x).toArray) (covers m t) w := fun W x hb => by
  have hc1 : W.cell? ⟨B1, 0, none⟩ = some (.int .i64 m) := (hb.cell (p := ⟨B1, 0, none⟩) h1).trans c1
  have hc2 : W.cell? ⟨B2, 0, none⟩ = some (.int .i64 t) := (hb.cell (p := ⟨B2, 0, none⟩) h2).trans c2
  have hw1 : B1 < W.heap.size := Nat.lt_of_lt_of_le h1 hb.size
  have hw2 : B2 < W.heap.size := Nat.lt_of_lt_of_le h2 hb.size
  have hn1 : B1 ≠ W.heap.size := by have := hb.size; omega
  have hn2 : B2 ≠ W.heap.size := by have := hb.size; omega
  obtain ⟨x0, x1, x2⟩ := x
  show Calls Try.prog 21 #[.agg #[.int .i64 x0, .int .i64 x1, .int .i64 x2], .pointer (some ⟨B1, 0, none⟩), .pointer (some ⟨B2, 0, none⟩)] W fun e w' => e = .returned (.bool (x0 == m && (decide (x1 ≤ t) && decide (t < x2)))) ∧ _
  clear c1 c2 h1 h2
  have hu := Try.underlying36
  by_cases e0 : x0 = m
  · subst e0
    by_cases e1 : x1 ≤ t
    · by_cases e2 : t < x2
      · go_enter Try.func21, Try.ntmps21
        go_wp2
        go_ret
        exact ⟨by simp [e1, e2], hb.alloc hb.size _⟩
      · go_enter Try.func21, Try.ntmps21
        go_wp2
        go_ret
        exact ⟨by simp [e1, e2], hb.alloc hb.size _⟩
    · go_enter Try.func21, Try.ntmps21
      go_wp2
      go_ret
      exact ⟨by simp; omega, hb.alloc hb.size _⟩
  · have e0' : (x0 == m) = false := by simpa using e0
    go_enter Try.func21, Try.ntmps21
    go_wp2
    go_ret
    exact ⟨by simp [e0], hb.alloc hb.size _⟩

theorem idx_empty (A : Option Addr) (c : Nat) (fv : Value) (w : World) : Calls Try.prog 26 #[.slice A 0 c, fv] w fun e w' => e = .returned (.int .i64 (-1)) ∧ w' = w := by
  go_enter Try.func26, Try.ntmps26
  go_wp2
  go_loopg [5, 8] 0 (fun _ _ s8 wr => s8 = .int .i64 0 ∧ wr = w)
  case atStart => exact ⟨rfl, rfl⟩
  case round =>
    obtain ⟨rfl, rfl⟩ := hrel
    go_wp2
    go_ret
    exact ⟨rfl, rfl⟩

theorem cont_empty (A : Option Addr) (c : Nat) (fv : Value) (w : World) : Calls Try.prog 20 #[.slice A 0 c, fv] w fun e w' => e = .returned (.bool false) ∧ w' = w := by
  go_enter Try.func20, Try.ntmps20
  go_wp2_with (go_at_call 26; refine (idx_empty A c fv _).mono ?_; rintro e w' ⟨rfl, rfl⟩)
  go_ret
  exact ⟨rfl, rfl⟩

/-- where a row that is not empty lies -/
theorem row_at {w : World} {A : Option Addr} {n : Nat} {xs : List S36} (h : Kd.C k36 w A n xs) (h0 : 0 < n) : ∃ b off, A = some ⟨b, off, none⟩ ∧ b < w.heap.size ∧
    ∀ j, j < xs.length → ∀ i v, (encDown xs[j]!)[i]? = some v → w.cell? ⟨b, off + j * 3 + i, none⟩ = some v := by
  obtain ⟨hl, hm, hr⟩ := h
  obtain ⟨ad, rfl, hc⟩ := hr h0
  have hz : 0 < xs.length := by omega
  have hcell : ∀ j, j < xs.length → ∀ i v, (encDown xs[j]!)[i]? = some v → w.cell? (ad.add (j * 3 + i)) = some v := by
    intro j hj i v hv
    obtain ⟨c, hcl, hk, hcc⟩ := hc j xs[j] (List.getElem?_eq_getElem hj)
    obtain rfl := k36_open hk
    rw [getElem!_pos xs j hj] at hv
    exact hcc i v hv
  have h00 := hcell 0 hz 0 (.int .i64 xs[0]!.f0) rfl
  simp only [Nat.zero_mul, Nat.add_zero] at h00
  have e0 : ad.add 0 = ad := rfl
  rw [e0] at h00
  obtain ⟨b, off, sp⟩ := ad
  have hsp : sp = none := by
    simp only [World.cell?] at h00
    split at h00
    · cases sp with
      | none => rfl
      | some s => simp at h00
    · simp at h00
  subst hsp
  refine ⟨b, off, rfl, ?_, fun j hj i v hv => ?_⟩
  · simp only [World.cell?] at h00
    split at h00
    · rename_i hb
      exact (Array.getElem?_eq_some_iff.1 hb).1
    · simp at h00
  · have := hcell j hj i v hv
    have e : Addr.add ⟨b, off, none⟩ (j * 3 + i) = ⟨b, off + j * 3 + i, none⟩ := by
      unfold Addr.add
      split
      · rename_i hz
        have : j * 3 = 0 ∧ i = 0 := by omega
        simp [this]
      · simp [Nat.add_assoc]
    rwa [e] at this

set_option maxHeartbeats 1000000 in
theorem machine_Up.calls (A0 : Option Addr) (c0 : Nat) (l0 : List S36) (a1 : Int) (a2 : Int) (r : Bool) (w : World) (hr0 : Kd.C k36 w A0 l0.length l0) (hc0 : l0.length ≤ c0) (h : machine_Up.f l0 a1 a2 = some r) :
    Calls Try.prog 14 #[.slice A0 l0.length c0, .int .i64 a1, .int .i64 a2] w fun e w' => e = .returned (.bool r) ∧ Below w.heap.size w w' := by
  unfold machine_Up.f at h
  injection h with h
  have hlen := hr0.2.1
  by_cases hz : l0.length = 0
  · have e0 : l0 = [] := List.eq_nil_of_length_eq_zero hz
    subst e0
    have hr : r = true := by simpa using h.symm
    subst hr
    clear h hr0 hc0 hlen
    show Calls Try.prog 14 #[.slice A0 0 c0, .int .i64 a1, .int .i64 a2] w _
    go_enter Try.func14, Try.ntmps14
    go_wp2_with (go_at_call 20; refine (cont_empty A0 c0 _ _).mono ?_; rintro e w' ⟨rfl, rfl⟩)
    go_ret
    exact ⟨rfl, ((Below.refl _ w).alloc (Nat.le_refl _) _).alloc (by simp) _⟩
  · obtain ⟨b, off, rfl, hb, hc⟩ := row_at hr0 (by omega)
    have eg : ∀ args w, (callFunc 21 args).run Try.prog w = .ok (.enter 21 args) w := enters_of Try.func21 (by kernel_rfl) rfl
    have hpre := Up_pred a1 a2 w.heap.size (w.heap.size + 1) ((w.alloc (.cells #[.int .i64 a1] 3)).alloc (.cells #[.int .i64 a2] 3)) (by simp; omega) (by simp) (by
      refine Lib.cell?_alloc_some _ ?_
      simp) (by
      have : (w.alloc (.cells #[.int .i64 a1] 3)).heap.size = w.heap.size + 1 := by simp
      rw [← this]
      simp)
    have hcon := AnyQ.slices_ContainsFunc Try.lcont 3 Try.isAgg36 Try.sizeOf36 encDown (fun _ => rfl) (covers a1 a2) 21 #[.pointer (some ⟨w.heap.size, 0, none⟩), .pointer (some ⟨w.heap.size + 1, 0, none⟩)] eg b off l0.length c0 l0 _ hpre (Nat.le_refl _) hlen (by simp; omega) (fun j hj i v hi => Lib.cell?_alloc_some _ (Lib.cell?_alloc_some _ (hc j hj i v hi)))
    change Calls Try.prog 20 _ _ _ at hcon
    rw [List.take_length] at hcon
    clear hc hpre hr0 hc0
    generalize l0.any (covers a1 a2) = q at hcon h
    subst h
    go_enter Try.func14, Try.ntmps14
    go_wp2_with (go_at_call 20; refine hcon.mono ?_; rintro e w' ⟨rfl, hb'⟩)
    go_ret
    exact ⟨rfl, (((Below.refl _ w).alloc (Nat.le_refl _) _).alloc (by simp) _).trans (hb'.mono (by simp; omega))⟩

end Go.Proofs.Ytlglnbcglafjnaa.M
