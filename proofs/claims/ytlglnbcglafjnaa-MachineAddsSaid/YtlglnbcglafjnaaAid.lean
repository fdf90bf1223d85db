/- One small law that the walk lacks: a store into a cell doesn't change whether a cell is there (so that a cell that is stored into twice is read back without a second discharge). Generic; no function of the program stands here. -/
import Derived.WalkKit
namespace Go.Proofs.Ytlglnbcglafjnaa.Aid
open Go Go.RowKit
theorem isSome_setCell (w : World) (a b : Addr) (v : Value) : ((w.setCell b v).cell? a).isSome = (w.cell? a).isSome := by
  by_cases h : b = a
  · subst h
    cases hc : w.cell? b with
    | none =>
      cases hs : (w.setCell b v).cell? b with
      | none => rfl
      | some u =>
        exfalso
        unfold World.setCell World.cell? at hs
        unfold World.cell? at hc
        simp only [Array.getElem?_modify, if_true] at hs
        cases hb : w.heap[b.block]? with
        | none => rw [hb] at hs; simp at hs
        | some o =>
          rw [hb] at hs hc
          cases o with
          | cells c e fr =>
            simp only [Option.map_some] at hs hc
            cases hsp : b.spot.isSome with
            | true => rw [hsp] at hs; simp at hs
            | false =>
              rw [hsp] at hs hc
              simp at hs hc
              rw [Array.getElem?_eq_none (by simpa using hc)] at hs
              cases hs
          | _ => simp at hs
    | some u => rw [World.cell?_setCell_same _ _ _ hc]; rfl
  · rw [World.cell?_setCell_other _ _ _ _ h]
end Go.Proofs.Ytlglnbcglafjnaa.Aid
