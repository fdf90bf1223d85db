/- slices.SortFunc at machine.stops's comparison (by From): a permutation of the stops, sorted by From, for stops whose From is a time. -/
import Derived.Test.YtlglnbcglafjnaaMx0
import Derived.Test.YtlglnbcglafjnaaSortGen
import Derived.Test.YtlglnbcglafjnaaLay
namespace Go.Proofs.Ytlglnbcglafjnaa.M
open Go.RowKit Go.Proofs.YtlglnbcglafjnaaW.PrintWords Go.Proofs.YtlglnbcglafjnaaW.PrintLast Go.Proofs.YtlglnbcglafjnaaW.PrintMore
set_option linter.unusedVariables false
set_option linter.unusedSimpArgs false
open Go Go.RowKit Go.Sort Go.Shelf Go.Lib Go.Proofs.Ytlglnbcglafjnaa.SortGen

instance : Inhabited S36 := ⟨z36⟩
def encDown (x : S36) : List Value := [.int .i64 x.f0, .int .i64 x.f1, .int .i64 x.f2]
theorem flatDown : FlatKd k36 encDown where
  len _ := rfl
  one x v hv := by
    simp only [encDown, List.mem_cons, List.not_mem_nil, or_false] at hv
    rcases hv with rfl | rfl | rfl <;> rfl
  ofK h := k36_open h
  ofM h := k36_openM h
  mkM w base ok x := k36_mkM w base ok x

abbrev timely (x : S36) : Prop := 0 ≤ x.f1 ∧ x.f1 ≤ 1073741824
def cmpDown (x y : {x : S36 // timely x}) : Int := x.1.f1 - y.1.f1
instance : Inhabited {x : S36 // timely x} := ⟨⟨z36, by decide⟩⟩
theorem ltDown (x y : {x : S36 // timely x}) : ltOf cmpDown x y = decide (x.1.f1 < y.1.f1) := by
  unfold ltOf cmpDown
  by_cases h : x.1.f1 < y.1.f1
  · simp [h]; omega
  · simp [h]; omega
theorem swoDown : SWO (ltOf cmpDown) where
  irrefl x := by rw [ltDown]; simp
  trans x y z h1 h2 := by rw [ltDown] at *; simp at *; omega
  ntrans x y z h1 h2 := by rw [ltDown] at *; simp at *; omega

set_option maxHeartbeats 1000000 in
theorem closureDown (x y : {x : S36 // timely x}) (W : World) : Calls Try.prog 28 #[.agg (encDown x.1).toArray, .agg (encDown y.1).toArray] W fun e w' => e = .returned (.int .i64 (cmpDown x y)) ∧ ∃ q os', w' = grow (W.drewN q) os' := by
  obtain ⟨⟨x0, x1, x2⟩, hx0, hx1⟩ := x
  obtain ⟨⟨y0, y1, y2⟩, hy0, hy1⟩ := y
  simp only at hx0 hx1 hy0 hy1
  show Calls Try.prog 28 #[.agg #[.int .i64 x0, .int .i64 x1, .int .i64 x2], .agg #[.int .i64 y0, .int .i64 y1, .int .i64 y2]] W fun e w' => e = .returned (.int .i64 (x1 - y1)) ∧ _
  go_enter Try.func28, Try.ntmps28
  go_wp2
  go_ret
  exact ⟨rfl, 0, _, by rw [alloc_eq_grow, alloc_eq_grow, grow_grow]; rfl⟩

theorem sort_empty (p : Option Addr) (c : Nat) (W : World) : Calls Try.prog 27 #[.slice p 0 c, .func (.func 28) #[] #[]] W fun e w' => e = .returned (.tuple #[]) ∧ w' = W := by
  have h := AnyF.slices_SortFunc_none { Try.lsort with } p c (.func (.func 28) #[] #[]) W
  change Calls Try.prog 27 _ _ _ at h
  exact h

def sort_downs.f (l0 : List S36) : Option (List S36) :=
  if h : (∀ x ∈ l0, timely x) ∧ l0.length < 4611686018427387904 then
    some ((pdq (ltOf cmpDown) (l0.attachWith timely h.1).toArray 0 (l0.attachWith timely h.1).length (Lib.bitLen (l0.attachWith timely h.1).length) true true).toList.map Subtype.val)
  else none

theorem sort_downs.calls (P0_ : Nat → Prop) (u9000_ : Value) (l0 : List S36) (r : List S36) (w0 w : World) (hB : Below w0.heap.size w0 w) (ho0 : Kd.R k36 36 w w0.heap.size P0_ u9000_ l0) (h : sort_downs.f l0 = some r) :
    Calls Try.prog 27 #[u9000_, .func (.func 28) #[] #[]] w fun e w' => e = .returned (.tuple #[]) ∧ Kd.R k36 36 w' w0.heap.size (fun k_ => (P0_ k_ ∨ w.heap.size ≤ k_)) u9000_ r ∧ Below w0.heap.size w0 w' ∧ Kept w w' (fun k_ => P0_ k_) := by
  unfold sort_downs.f at h
  split at h
  · rename_i hh
    injection h with h
    subst h
    have hm : (l0.attachWith timely hh.1).map Subtype.val = l0 := by simp
    have eg : ∀ args w, (callFunc 28 args).run Try.prog w = .ok (.enter 28 args) w := enters_of Try.func28 (by kernel_rfl) rfl
    have he : ∀ (p : Option Addr) (c : Nat) (W : World), Calls Try.prog (Try.lsort_ren.f 6) #[.slice p 0 c, .func (.func 28) #[] #[]] W fun e w' => e = .returned (.tuple #[]) ∧ w' = W := sort_empty
    have hc := sort_own (β := {x : S36 // timely x}) flatDown (by decide) Subtype.val Try.lsort Try.isAgg36 Try.sizeOf36 cmpDown swoDown 28 eg closureDown 36 he P0_ u9000_ (l0.attachWith timely hh.1) (by simpa using hh.2) w0 w hB (by rw [hm]; exact ho0)
    generalize (pdq (ltOf cmpDown) (l0.attachWith timely hh.1).toArray 0 (l0.attachWith timely hh.1).length (Lib.bitLen (l0.attachWith timely hh.1).length) true true).toList.map Subtype.val = r at hc ⊢
    change Calls Try.prog 27 _ _ _ at hc
    exact hc
  · exact absurd h (by simp)

/-- What the sort does: a permutation, ascending by From. -/
theorem sort_downs.sorts (l : List S36) (hl : l.length < 4611686018427387904) (h : ∀ x ∈ l, timely x) : ∃ r, sort_downs.f l = some r ∧ r.Perm l ∧ r.Pairwise (fun a b => a.f1 ≤ b.f1) := by
  have hh : (∀ x ∈ l, timely x) ∧ l.length < 4611686018427387904 := ⟨h, hl⟩
  refine ⟨_, by unfold sort_downs.f; rw [dif_pos hh], ?_, ?_⟩
  · have hp := pdq_sorts (ltOf cmpDown) swoDown (l.attachWith timely hh.1).toArray 0 (l.attachWith timely hh.1).length (Lib.bitLen (l.attachWith timely hh.1).length) true true (Nat.zero_le _) (by simp) (Or.inl rfl)
    generalize pdq (ltOf cmpDown) (l.attachWith timely hh.1).toArray 0 (l.attachWith timely hh.1).length (Lib.bitLen (l.attachWith timely hh.1).length) true true = d' at hp ⊢
    obtain ⟨⟨hs, _, hperm⟩, _⟩ := hp
    have e1 : (d'.extract 0 (l.attachWith timely hh.1).length).toList = d'.toList := by
      rw [show (l.attachWith timely hh.1).length = d'.size by simpa using hs.symm]
      simp
    have e2 : ((l.attachWith timely hh.1).toArray.extract 0 (l.attachWith timely hh.1).length).toList = l.attachWith timely hh.1 := by
      rw [show (l.attachWith timely hh.1).length = (l.attachWith timely hh.1).toArray.size by simp, Array.extract_size]
    rw [e1, e2] at hperm
    have := hperm.map (·.1)
    simpa using this
  · have hp := pdq_sorts (ltOf cmpDown) swoDown (l.attachWith timely hh.1).toArray 0 (l.attachWith timely hh.1).length (Lib.bitLen (l.attachWith timely hh.1).length) true true (Nat.zero_le _) (by simp) (Or.inl rfl)
    generalize pdq (ltOf cmpDown) (l.attachWith timely hh.1).toArray 0 (l.attachWith timely hh.1).length (Lib.bitLen (l.attachWith timely hh.1).length) true true = d' at hp ⊢
    obtain ⟨⟨hs, _, _⟩, hsort⟩ := hp
    rw [List.pairwise_map, List.pairwise_iff_getElem]
    intro i j hi hj hij
    have hs' : d'.size = (l.attachWith timely hh.1).length := by simpa using hs
    have := hsort i j (Nat.zero_le _) hij (by rw [← hs']; simpa using hj)
    rw [ltDown, getElem!_pos d' i (by simpa using hi), getElem!_pos d' j (by simpa using hj)] at this
    simp at this
    simpa using this

end Go.Proofs.Ytlglnbcglafjnaa.M
