/- slices.Clone of spots: the same elements, in a row of the call's own (nil for nil). -/
import Derived.Test.YtlnigbhimdphoaaCx0
import Derived.Test.YtlnigbhimdphoaaCysortspots
import Derived.Shelf.SlicesE.Clone
import Derived.Test.YtlnigbhimdphoaaLay
namespace Go.Proofs.Ytlnigbhimdphoaa.C
open Go.RowKit Go.Proofs.YtlnigbhimdphoaaW.PrintWords Go.Proofs.YtlnigbhimdphoaaW.PrintLast Go.Proofs.YtlnigbhimdphoaaW.PrintMore
set_option linter.unusedVariables false
set_option linter.unusedSimpArgs false
open Go Go.RowKit Go.Shelf Go.Lib Go.Proofs.Ytlnigbhimdphoaa.SortGen
def clone_spots.f (l0 : List S30) : Option (List S30) := if l0.length < 8000000000000 then some l0 else none
theorem cloneInfo : (Try.prog.info? 30).map (fun i => (i.zero, i.size, i.bytes)) = some (some (.agg #[.int .i64 0, .int .i64 0]), 2, 16) := by kernel_rfl

def spotCells (l : List S30) : List Value := l.flatMap encSpot
theorem spotCells_len (l : List S30) : (spotCells l).length = l.length * 2 := by
  induction l with
  | nil => rfl
  | cons a l ih => simp only [spotCells, List.flatMap_cons, List.length_append] at *; rw [ih]; simp [encSpot]; omega
theorem spotCells_reps {R : S30 → List Value → Prop} (l : List S30) (h : ∀ x ∈ l, R x (encSpot x)) : Reps R 2 l (spotCells l) := by
  induction l with
  | nil => exact Reps.none _ _
  | cons a l ih =>
    have h1 := ih (fun x hx => h x (by simp [hx]))
    refine ⟨spotCells_len _, fun j p hj => ?_⟩
    cases j with
    | zero =>
      simp only [List.getElem?_cons_zero, Option.some.injEq] at hj
      subst hj
      exact h _ (by simp)
    | succ j =>
      simp only [List.getElem?_cons_succ] at hj
      have e : ((spotCells (a :: l)).drop ((j + 1) * 2)).take 2 = ((spotCells l).drop (j * 2)).take 2 := by
        have : spotCells (a :: l) = encSpot a ++ spotCells l := rfl
        rw [this, show (j + 1) * 2 = (encSpot a).length + j * 2 by simp [encSpot]; omega, List.drop_length_add_append]
      rw [e]
      exact h1.2 j p hj
theorem spotCells_at {w : World} {ad : Addr} (l : List S30) (hc : ∀ j p, l[j]? = some p → ∀ i u, (encSpot p)[i]? = some u → w.cell? (ad.add (j * 2 + i)) = some u) : ∀ j u, (spotCells l)[j]? = some u → w.cell? (ad.add j) = some u := by
  intro j u hu
  have hlt : j < l.length * 2 := by
    have := (List.getElem?_eq_some_iff.1 hu).1
    rwa [spotCells_len] at this
  have hj : j / 2 < l.length := by omega
  have h1 := (spotCells_reps (R := fun x c => c = encSpot x) l (fun _ _ => rfl)).2 (j / 2) l[j / 2] (List.getElem?_eq_getElem hj)
  have h2 : (((spotCells l).drop (j / 2 * 2)).take 2)[j % 2]? = (spotCells l)[j]? := by
    rw [List.getElem?_take_of_lt (by omega), List.getElem?_drop, show j / 2 * 2 + j % 2 = j by omega]
  rw [h1, hu] at h2
  have := hc (j / 2) _ (List.getElem?_eq_getElem hj) (j % 2) u h2
  rwa [show j / 2 * 2 + j % 2 = j by omega] at this

set_option maxHeartbeats 2000000 in
theorem clone_spots.calls (A0 : Option Addr) (c0 : Nat) (l0 : List S30) (r : List S30) (w : World) (hr0 : Kd.C k30 w A0 l0.length l0) (hc0 : l0.length ≤ c0) (h : clone_spots.f l0 = some r) :
    Calls Try.prog 37 #[.slice A0 l0.length c0] w fun e w' => ∃ v0_ : Value, e = .returned v0_ ∧ Kd.R k30 30 w' w.heap.size (fun _ => True) v0_ r ∧ Below w.heap.size w w' := by
  unfold clone_spots.f at h
  split at h
  · rename_i hl
    injection h with h
    subst h
    cases A0 with
    | none =>
      have hz : l0 = [] := by
        rcases Nat.eq_zero_or_pos l0.length with h0 | h0
        · exact List.eq_nil_of_length_eq_zero h0
        · obtain ⟨ad, e, _⟩ := hr0.2.2 h0
          cases e
      subst hz
      have hc := AnyE.slices_Clone_nil Try.lclone 0 c0 w
      change Calls Try.prog 37 _ _ _ at hc
      refine hc.mono ?_
      rintro e w' ⟨rfl, rfl⟩
      exact ⟨_, rfl, Kd.R_nil _ _ _ _ _, Below.refl _ _⟩
    | some ad =>
      obtain ⟨i0, hi, hzz⟩ := Option.map_eq_some_iff.1 cloneInfo
      simp only [Prod.mk.injEq] at hzz
      obtain ⟨hz0, hz1, hz2⟩ := hzz
      have hcell : ∀ j u, (spotCells l0)[j]? = some u → w.cell? (ad.add j) = some u := by
        refine spotCells_at l0 (fun j p hj i u hu => ?_)
        have hpos : 0 < l0.length := by have := (List.getElem?_eq_some_iff.1 hj).1; omega
        obtain ⟨ad', e, hc⟩ := hr0.2.2 hpos
        injection e with e
        subst e
        obtain ⟨c, _, hk, hcc⟩ := hc j p hj
        obtain rfl := k30_open hk
        exact hcc i u hu
      have HC : Aside (∀ j u, (spotCells l0)[j]? = some u → w.cell? (ad.add j) = some u) := hcell
      have hlen := spotCells_len l0
      have hone : ∀ u ∈ spotCells l0, u.oneCell' = true := by
        intro u hu
        obtain ⟨x, _, hx⟩ := List.mem_flatMap.1 hu
        exact flatSpot.one x u hx
      have HL : Aside (l0.length < 8000000000000) := hl
      have HS : Aside (spotCells l0 = spotCells l0 ∧ ∀ u ∈ spotCells l0, u.oneCell' = true) := ⟨rfl, hone⟩
      generalize hcs : spotCells l0 = cs at hlen hcell hone HC HS
      have HE : Aside (spotCells l0 = cs) := hcs
      clear hcell hone hcs hr0 hl
      have q22 : ∀ (w : World) (a : Option Addr) (n c n' c' : Nat), (binOp .eql 22 (.slice a n c) (.slice none n' c')).run Try.prog w = .ok (.bool a.isNone) w := fun w a n c n' c' => Lib.run_eql_slice_nil w _ _ a n c n' c' Try.underlying22
      have u22 : ∀ w, Sem.run Try.prog (underlying 22) w = .ok (TypeDesc.slice 30) w := run_underlying Try.underlying22
      go_enter Try.func37, Try.ntmps37
      go_wp2_with (at_builtin; refine wpList_append_own _ rfl _ _ 22 rfl w.heap.size 30 i0 (.agg #[.int .i64 0, .int .i64 0]) 2 16 Try.underlying22 hi hz0 hz1 hz2 rfl (by decide) _ _ _ rfl (World.ownsRow_made w #[] 0 (Nat.le_refl _) (Nat.zero_le _) (by simp)) ad l0.length c0 cs rfl ?qc1 ?qc2 ?qc3 ?qc4 ?qc5 ?qc6 ?_)
      case qc2 =>
        intro j u hj
        exact Lib.cell?_alloc_some _ (HC.out j u hj)
      case qc3 => exact HS.out.2
      case qc4 => (try rw [Nat.zero_add]); have := HL.out; exact Nat.le_trans (Nat.le_of_lt this) (by decide)
      case qc5 => (try rw [Nat.zero_add]); have := HL.out; omega
      intro v' w1 hown hgrow hnil
      go_wp2
      go_ret
      refine ⟨v', rfl, ⟨fun _ _ => trivial, cs, (by show w1.ownsRow w.heap.size 30 2 v' l0.length cs; simpa using hown), ?_⟩, ?_⟩
      · rw [← HE.out]
        exact spotCells_reps l0 (fun x _ => flatSpot.mkM _ _ _ x)
      · exact ((Below.refl _ w).alloc (Nat.le_refl _) _).grown hgrow (by simp) (by intro k hk; simp [Value.ownBlock] at hk; omega)
  · exact absurd h (by simp)

end Go.Proofs.Ytlnigbhimdphoaa.C
