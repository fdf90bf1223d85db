/- slices.SortFunc at convex.order (by X, then by Y): for spots whose coordinates are moderate: a permutation, in ascending order. -/
import Derived.Test.YtlnigbhimdphoaaCx0
import Derived.Test.YtlnigbhimdphoaaSortGen
import Derived.Test.YtlnigbhimdphoaaLay
namespace Go.Proofs.Ytlnigbhimdphoaa.C
open Go.RowKit Go.Proofs.YtlnigbhimdphoaaW.PrintWords Go.Proofs.YtlnigbhimdphoaaW.PrintLast Go.Proofs.YtlnigbhimdphoaaW.PrintMore
set_option linter.unusedVariables false
set_option linter.unusedSimpArgs false
open Go Go.RowKit Go.Sort Go.Shelf Go.Lib Go.Proofs.Ytlnigbhimdphoaa.SortGen

instance : Inhabited S30 := ⟨z30⟩
def encSpot (x : S30) : List Value := [.int .i64 x.f0, .int .i64 x.f1]
theorem flatSpot : FlatKd k30 encSpot where
  len _ := rfl
  one x v hv := by
    simp only [encSpot, List.mem_cons, List.not_mem_nil, or_false] at hv
    rcases hv with rfl | rfl <;> rfl
  ofK h := k30_open h
  ofM h := k30_openM h
  mkM w base ok x := k30_mkM w base ok x

abbrev moderate (x : S30) : Prop := (-1073741824 ≤ x.f0 ∧ x.f0 ≤ 1073741824) ∧ (-1073741824 ≤ x.f1 ∧ x.f1 ≤ 1073741824)
def cmpSpot (x y : {x : S30 // moderate x}) : Int := if x.1.f0 = y.1.f0 then x.1.f1 - y.1.f1 else x.1.f0 - y.1.f0
instance : Inhabited {x : S30 // moderate x} := ⟨⟨z30, by decide⟩⟩
/-- by X, then by Y -/
def lexLt (a b : S30) : Prop := a.f0 < b.f0 ∨ a.f0 = b.f0 ∧ a.f1 < b.f1
instance (a b : S30) : Decidable (lexLt a b) := by unfold lexLt; infer_instance
theorem ltSpot (x y : {x : S30 // moderate x}) : ltOf cmpSpot x y = decide (lexLt x.1 y.1) := by
  unfold ltOf cmpSpot lexLt
  congr 1
  apply propext
  split <;> omega
theorem swoSpot : SWO (ltOf cmpSpot) where
  irrefl x := by rw [ltSpot]; simp [lexLt]
  trans x y z h1 h2 := by rw [ltSpot, decide_eq_true_eq] at *; unfold lexLt at *; omega
  ntrans x y z h1 h2 := by rw [ltSpot, decide_eq_false_iff_not] at *; unfold lexLt at *; omega

set_option maxHeartbeats 1000000 in
theorem closureSpot (x y : {x : S30 // moderate x}) (W : World) : Calls Try.prog 39 #[.agg (encSpot x.1).toArray, .agg (encSpot y.1).toArray] W fun e w' => e = .returned (.int .i64 (cmpSpot x y)) ∧ ∃ q os', w' = grow (W.drewN q) os' := by
  obtain ⟨⟨x0, x1⟩, ⟨hx0, hx1⟩, hx2, hx3⟩ := x
  obtain ⟨⟨y0, y1⟩, ⟨hy0, hy1⟩, hy2, hy3⟩ := y
  simp only at hx0 hx1 hx2 hx3 hy0 hy1 hy2 hy3
  show Calls Try.prog 39 #[.agg #[.int .i64 x0, .int .i64 x1], .agg #[.int .i64 y0, .int .i64 y1]] W fun e w' => e = .returned (.int .i64 (if x0 = y0 then x1 - y1 else x0 - y0)) ∧ _
  have hu := Try.underlying30
  by_cases e : x0 = y0
  · subst e
    rw [if_pos rfl]
    go_enter Try.func39, Try.ntmps39
    go_wp2
    go_ret
    exact ⟨rfl, 0, _, by rw [alloc_eq_grow, alloc_eq_grow, grow_grow]; rfl⟩
  · rw [if_neg e]
    have c1 : (x0 != y0) = true := by simpa using e
    have c2 : (x0 == y0) = false := by simpa using e
    clear e
    go_enter Try.func39, Try.ntmps39
    go_wp2
    go_ret
    exact ⟨rfl, 0, _, by rw [alloc_eq_grow, alloc_eq_grow, grow_grow]; rfl⟩

theorem sortSpot_empty (p : Option Addr) (c : Nat) (W : World) : Calls Try.prog 38 #[.slice p 0 c, .func (.func 39) #[] #[]] W fun e w' => e = .returned (.tuple #[]) ∧ w' = W := by
  have h := AnyF.slices_SortFunc_none { Try.lsort with } p c (.func (.func 39) #[] #[]) W
  change Calls Try.prog 38 _ _ _ at h
  exact h

def sort_spots.f (l0 : List S30) : Option (List S30) :=
  if h : (∀ x ∈ l0, moderate x) ∧ l0.length < 4611686018427387904 then
    some ((pdq (ltOf cmpSpot) (l0.attachWith moderate h.1).toArray 0 (l0.attachWith moderate h.1).length (Lib.bitLen (l0.attachWith moderate h.1).length) true true).toList.map Subtype.val)
  else none

theorem sort_spots.calls (P0_ : Nat → Prop) (u9000_ : Value) (l0 : List S30) (r : List S30) (w0 w : World) (hB : Below w0.heap.size w0 w) (ho0 : Kd.R k30 30 w w0.heap.size P0_ u9000_ l0) (h : sort_spots.f l0 = some r) :
    Calls Try.prog 38 #[u9000_, .func (.func 39) #[] #[]] w fun e w' => e = .returned (.tuple #[]) ∧ Kd.R k30 30 w' w0.heap.size (fun k_ => (P0_ k_ ∨ w.heap.size ≤ k_)) u9000_ r ∧ Below w0.heap.size w0 w' ∧ Kept w w' (fun k_ => P0_ k_) := by
  unfold sort_spots.f at h
  split at h
  · rename_i hh
    injection h with h
    subst h
    have hm : (l0.attachWith moderate hh.1).map Subtype.val = l0 := by simp
    have eg : ∀ args w, (callFunc 39 args).run Try.prog w = .ok (.enter 39 args) w := enters_of Try.func39 (by kernel_rfl) rfl
    have he : ∀ (p : Option Addr) (c : Nat) (W : World), Calls Try.prog (Try.lsort_ren.f 6) #[.slice p 0 c, .func (.func 39) #[] #[]] W fun e w' => e = .returned (.tuple #[]) ∧ w' = W := sortSpot_empty
    have hc := sort_own (β := {x : S30 // moderate x}) flatSpot (by decide) Subtype.val Try.lsort Try.isAgg30 Try.sizeOf30 cmpSpot swoSpot 39 eg closureSpot 30 he P0_ u9000_ (l0.attachWith moderate hh.1) (by simpa using hh.2) w0 w hB (by rw [hm]; exact ho0)
    generalize (pdq (ltOf cmpSpot) (l0.attachWith moderate hh.1).toArray 0 (l0.attachWith moderate hh.1).length (Lib.bitLen (l0.attachWith moderate hh.1).length) true true).toList.map Subtype.val = r at hc ⊢
    change Calls Try.prog 38 _ _ _ at hc
    exact hc
  · exact absurd h (by simp)

/-- What the sort does: a permutation, ascending. -/
theorem sort_spots.sorts (l : List S30) (hl : l.length < 4611686018427387904) (h : ∀ x ∈ l, moderate x) : ∃ r, sort_spots.f l = some r ∧ r.Perm l ∧ r.Pairwise (fun a b => ¬ lexLt b a) := by
  have hh : (∀ x ∈ l, moderate x) ∧ l.length < 4611686018427387904 := ⟨h, hl⟩
  refine ⟨_, by unfold sort_spots.f; rw [dif_pos hh], ?_, ?_⟩
  · have hp := pdq_sorts (ltOf cmpSpot) swoSpot (l.attachWith moderate hh.1).toArray 0 (l.attachWith moderate hh.1).length (Lib.bitLen (l.attachWith moderate hh.1).length) true true (Nat.zero_le _) (by simp) (Or.inl rfl)
    generalize pdq (ltOf cmpSpot) (l.attachWith moderate hh.1).toArray 0 (l.attachWith moderate hh.1).length (Lib.bitLen (l.attachWith moderate hh.1).length) true true = d' at hp ⊢
    obtain ⟨⟨hs, _, hperm⟩, _⟩ := hp
    have e1 : (d'.extract 0 (l.attachWith moderate hh.1).length).toList = d'.toList := by
      rw [show (l.attachWith moderate hh.1).length = d'.size by simpa using hs.symm]
      simp
    have e2 : ((l.attachWith moderate hh.1).toArray.extract 0 (l.attachWith moderate hh.1).length).toList = l.attachWith moderate hh.1 := by
      rw [show (l.attachWith moderate hh.1).length = (l.attachWith moderate hh.1).toArray.size by simp, Array.extract_size]
    rw [e1, e2] at hperm
    have := hperm.map Subtype.val
    simpa using this
  · have hp := pdq_sorts (ltOf cmpSpot) swoSpot (l.attachWith moderate hh.1).toArray 0 (l.attachWith moderate hh.1).length (Lib.bitLen (l.attachWith moderate hh.1).length) true true (Nat.zero_le _) (by simp) (Or.inl rfl)
    generalize pdq (ltOf cmpSpot) (l.attachWith moderate hh.1).toArray 0 (l.attachWith moderate hh.1).length (Lib.bitLen (l.attachWith moderate hh.1).length) true true = d' at hp ⊢
    obtain ⟨⟨hs, _, _⟩, hsort⟩ := hp
    rw [List.pairwise_map, List.pairwise_iff_getElem]
    intro i j hi hj hij
    have hs' : d'.size = (l.attachWith moderate hh.1).length := by simpa using hs
    have := hsort i j (Nat.zero_le _) hij (by rw [← hs']; simpa using hj)
    rw [ltSpot, getElem!_pos d' i (by simpa using hi), getElem!_pos d' j (by simpa using hj)] at this
    simp only [decide_eq_false_iff_not] at this
    simpa using this

end Go.Proofs.Ytlnigbhimdphoaa.C
