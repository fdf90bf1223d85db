/- Some small laws that the walk and the print lack. make([]T, 0, n): an empty row of the call's own. And: a store into a cell doesn't change whether a cell is there (so that a cell that is stored into twice is read back without a second discharge). Generic; no function of the program stands here. -/
import Derived.WalkKit
import Derived.OwnWalk
import Derived.Test.YtlnigbhimdphoaaWWords
import Derived.Test.YtlnigbhimdphoaaWLast
namespace Go.Proofs.Ytlnigbhimdphoaa.Aid
open Go Go.RowKit
theorem isSome_setCell (w : World) (a b : Addr) (v : Value) : ((w.setCell b v).cell? a).isSome = (w.cell? a).isSome := by
  by_cases h : b = a
  · subst h
    cases hc : w.cell? b with
    | none =>
      cases hs : (w.setCell b v).cell? b with
      | none => rfl
      | some u =>
        exfalso
        unfold World.setCell World.cell? at hs
        unfold World.cell? at hc
        simp only [Array.getElem?_modify, if_true] at hs
        cases hb : w.heap[b.block]? with
        | none => rw [hb] at hs; simp at hs
        | some o =>
          rw [hb] at hs hc
          cases o with
          | cells c e fr =>
            simp only [Option.map_some] at hs hc
            cases hsp : b.spot.isSome with
            | true => rw [hsp] at hs; simp at hs
            | false =>
              rw [hsp] at hs hc
              simp at hs hc
              rw [Array.getElem?_eq_none (by simpa using hc)] at hs
              cases hs
          | _ => simp at hs
    | some u => rw [World.cell?_setCell_same _ _ _ hc]; rfl
  · rw [World.cell?_setCell_other _ _ _ _ h]
end Go.Proofs.Ytlnigbhimdphoaa.Aid

namespace Go.Proofs.YtlnigbhimdphoaaW.PrintWords.Kd
open Go Go.RowKit Go.Proofs.YtlnigbhimdphoaaW.PrintWords
section
variable {α : Type} {P : Program} {ops : Array Oper} {rest : List Oper} {o : Oper} {a : Act} {Q : Exit → Act → World → Prop}
/-- make([]T, 0, n): a row of the call's own, with no element. -/
theorem R_make0 (d : Kd α) {w0 W : World} (base e : Nat) (hgd : o.guard = none) {N : Tmp} (_hd : o.dst = some N) (t : TypeId) (x y : Operand) (ho : o.op = .makeSlice t x y) (n : Int) (hx : a.eval x = .int .i64 0) (hy : a.eval y = .int .i64 n)
    (ht : P.underlying t = some (.slice e)) (z : Value) (bytes : Nat) (hinfo : (P.info? e).map (fun i => (i.zero, i.size, i.bytes)) = some (some z, d.sz, bytes)) (_hs0 : 0 < d.sz) (hb0 : 0 < bytes)
    {ok : Nat → Prop} (hfresh : ok W.heap.size) (h0 : 0 ≤ n) (hl : n.toNat * bytes ≤ 281474976710656) (HB : Below base w0 W) (hbase : base ≤ W.heap.size)
    (h : ∀ v1 w1, d.R e w1 base ok v1 ([] : List α) → Below base w0 w1 → W.grownBy w1 none → (∃ b, v1.ownBlock = some b ∧ W.heap.size ≤ b) → wpList P ops Q rest (a.put o.dst v1) w1) : wpList P ops Q (o :: rest) a W := by
  obtain ⟨m, rfl⟩ := Int.eq_ofNat_of_zero_le h0
  simp only [Int.toNat_natCast] at hl
  obtain ⟨i0, hi, hzz⟩ := Option.map_eq_some_iff.1 hinfo
  simp only [Prod.mk.injEq] at hzz
  obtain ⟨hz0, hz1, hz2⟩ := hzz
  have hm : m ≤ 281474976710656 := Nat.le_trans (Nat.le_mul_of_pos_right _ hb0) hl
  refine wpList_make_own W hgd x y t ho base e i0 z d.sz ht hi hz0 hz1 .i64 .i64 (m : Int) m hx hy rfl (by rw [hz2, Nat.mul_comm]; exact hl) (Nat.le_trans hm (by decide)) hbase ?_
  intro w1 hown hg
  refine h _ w1 ⟨fun k hk => ?_, [], by simpa using hown, Reps.none _ _⟩ (HB.grown hg hbase (by simp)) hg ⟨W.heap.size, rfl, Nat.le_refl _⟩
  have : W.heap.size = k := by simpa [Value.ownBlock] using hk
  rw [← this]
  exact hfresh
end
end Go.Proofs.YtlnigbhimdphoaaW.PrintWords.Kd

namespace Go.Proofs.YtlnigbhimdphoaaW.PrintLast
open Go Go.RowKit
section
variable {P : Program} {ops : Array Oper} {Q : Exit → Act → World → Prop} {md : Region.Mode} {S : World → Prop} {ds : List Nat}
/-- several operations may come up: each is run, its own row each (orderS_, orderR_). -/
theorem orders_ {rs : List Nat} {fuel : Nat} {l : Array Bool} {a : Act} {w : World} (hr : (Region.ready md ops l == rs) = true) (hne : rs ≠ []) (h : AllReadyL P md ops Q S ds fuel l a w rs) : wpAnyLast P md ops Q S ds (fuel + 1) l a w :=
  wpAnyLast_ready (by simpa using hr) hne h
/-- a store of ds: nothing is shown behind it -/
theorem orderS_ {i : Nat} {N : Option Tmp} {oi : Oper} {rs : List Nat} {fuel : Nat} {l : Array Bool} {a : Act} {w : World} (l' : Array Bool) (hi : ops[i]? = some oi) (hN : oi.dst = N) (hl : (l.setIfInBounds i true == l') = true) (hd : i ∈ ds)
    (h : ∀ K : Act → World → Prop, Shut (∀ a' w', wpAnyLast P md ops Q S ds fuel l' a' w' → K a' w') → if Region.wanted oi (yielded ops a.tmps) = true then Oper.wp P oi a w K Q else K (a.put N undef) w)
    (hs : AllReadyL P md ops Q S ds fuel l a w rs) : AllReadyL P md ops Q S ds fuel l a w (i :: rs) := by
  subst hN
  have hl' : l.setIfInBounds i true = l' := by simpa using hl
  subst hl'
  exact AllReadyL.cons_last hi hd h hs
/-- a load: the world stays, and so does what holds of it -/
theorem orderR_ {i : Nat} {N : Option Tmp} {oi : Oper} {v : Value} {rs : List Nat} {fuel : Nat} {l : Array Bool} {a : Act} {w : World} (l' : Array Bool) (hi : ops[i]? = some oi) (hN : oi.dst = N) (hl : (l.setIfInBounds i true == l') = true)
    (hw : Region.wanted oi (yielded ops a.tmps) = true) (hrun : (execOp a.eval oi).run P w = .ok (.value v) w) {a' : Act} (ha : a.put N v = a')
    (h : wpAnyLast P md ops Q S ds fuel l' a' w) (hs : AllReadyL P md ops Q S ds fuel l a w rs) : AllReadyL P md ops Q S ds fuel l a w (i :: rs) := fun j hj => by
  subst hN
  subst ha
  have hl' : l.setIfInBounds i true = l' := by simpa using hl
  subst hl'
  rcases List.mem_cons.1 hj with rfl | hj
  · exact wpOp_step hi (fun K' hK => value_ hw rfl hrun (hK _ _ ⟨fun _ h => h, h⟩))
  · exact hs j hj
/-- The end that every order comes to, shown once. -/
theorem ends_ {fuel fuel' : Nat} {l l' : Array Bool} {a a1 : Act} {w w1 : World} (h : (∀ a2 w2, a2 = a1 → w2 = w1 → wpAnyLast P md ops Q S ds fuel' l' a2 w2) → wpAnyLast P md ops Q S ds fuel l a w) (hc : wpAnyLast P md ops Q S ds fuel' l' a1 w1) : wpAnyLast P md ops Q S ds fuel l a w :=
  h fun _ _ e1 e2 => by subst e1; subst e2; exact hc
end
end Go.Proofs.YtlnigbhimdphoaaW.PrintLast
