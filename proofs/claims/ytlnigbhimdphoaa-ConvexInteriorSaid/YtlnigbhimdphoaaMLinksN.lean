/- What the printed functions of chapter 14 come to: the law's own near. -/
import Derived.Test.YtlnigbhimdphoaaMLinksA
import Derived.Test.YtlnigbhimdphoaaCx24
namespace Go.Proofs.Ytlnigbhimdphoaa.Z
open Go Go.RowKit Go.Proofs.Ytlnigbhimdphoaa.C Go.Proofs.Ytlnigbhimdphoaa.Geo Go.Proofs.YtlnigbhimdphoaaW.PrintWords Go.Proofs.YtlnigbhimdphoaaW.PrintMore
/-- what near says -/
theorem near_l0 (l : List S30) (hl : l.length ≤ 1000) (n : Nat) : ∀ i : Nat, i + n = l.length → ∃ b, Ev (fun k => garmentlaw14_near.l0 k l (i : Int)) b ∧ (b = true → ∀ j (hj : j < l.length), i ≤ j → (-1048576 ≤ l[j].f0 ∧ l[j].f0 ≤ 1048576) ∧ (-1048576 ≤ l[j].f1 ∧ l[j].f1 ≤ 1048576)) := by
  induction n with
  | zero =>
    intro i hi
    exact ⟨true, Ev.step (f := fun _ => some true) (fun k => by simp only [garmentlaw14_near.l0]; rw [if_neg (nlt_cast (by omega))]) (Ev.now _), fun _ j hj hij => by omega⟩
  | succ n ih =>
    intro i hi
    have hlt : i < l.length := by omega
    by_cases c : (-1048576 ≤ l[i].f0 ∧ l[i].f0 ≤ 1048576) ∧ (-1048576 ≤ l[i].f1 ∧ l[i].f1 ≤ 1048576)
    · obtain ⟨b, hb, h⟩ := ih (i + 1) (by omega)
      refine ⟨b, Ev.step (fun k => ?_) hb, fun hb j hj hij => ?_⟩
      · simp only [garmentlaw14_near.l0]
        rw [if_pos (lt_cast hlt), if_pos (ge0 i), rd_at hlt, within_eq _ _ (by omega), Option.bind_some, if_pos (by simpa using c), w64s (by omega)]
      · by_cases e : j = i
        · subst e; exact c
        · exact h hb j hj (by omega)
    · refine ⟨false, Ev.step (f := fun _ => some false) (fun k => ?_) (Ev.now _), fun h => by simp at h⟩
      simp only [garmentlaw14_near.l0]
      rw [if_pos (lt_cast hlt), if_pos (ge0 i), rd_at hlt, within_eq _ _ (by omega), Option.bind_some, if_neg (by simpa using c)]
theorem near_f (l : List S30) (hl : l.length ≤ 1000) : ∃ b, Ev (fun k => garmentlaw14_near.f k l) b ∧ (b = true → ∀ x ∈ l, (-1048576 ≤ x.f0 ∧ x.f0 ≤ 1048576) ∧ (-1048576 ≤ x.f1 ∧ x.f1 ≤ 1048576)) := by
  obtain ⟨b, hb, h⟩ := near_l0 l hl l.length 0 (by omega)
  refine ⟨b, hb, fun e x hx => ?_⟩
  obtain ⟨j, hj, rfl⟩ := List.mem_iff_getElem.1 hx
  exact h e j hj (by omega)

end Go.Proofs.Ytlnigbhimdphoaa.Z
