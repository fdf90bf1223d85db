/- P14.1: the hull does not depend on the points' order, nor on points given twice. -/
import Derived.Test.YtlnigbhimdphoaaMLinksD
import Derived.Test.YtlnigbhimdphoaaCqConvexOrder
namespace Go.Proofs.Ytlnigbhimdphoaa.Z
open Go Go.RowKit Go.Proofs.Ytlnigbhimdphoaa.C Go.Proofs.Ytlnigbhimdphoaa.Geo Go.Proofs.YtlnigbhimdphoaaW.PrintWords Go.Proofs.YtlnigbhimdphoaaW.PrintMore

theorem reversed_l0 (l : List S30) (hl : l.length ≤ 1000) : ∀ (i : Nat) (out : List S30), i ≤ l.length → out.length + i ≤ 1000 → Ev (fun k => garmentref11_Reversed.l0 k l out ((i : Int) - 1)) (out ++ (l.take i).reverse) := by
  intro i
  induction i with
  | zero =>
    intro out _ _
    refine Ev.step (f := fun _ => some out) (fun k => ?_) (by simpa using Ev.now out)
    simp only [garmentref11_Reversed.l0]
    rw [if_neg (by omega)]
  | succ i ih =>
    intro out hi ho
    have hlt : i < l.length := by omega
    have := ih (out ++ [l[i]]) (by omega) (by simp; omega)
    rw [List.take_add_one, List.getElem?_eq_getElem hlt, List.reverse_append]
    rw [List.append_assoc] at this
    refine Ev.step (f := fun k => garmentref11_Reversed.l0 k l (out ++ [l[i]]) ((i : Int) - 1)) (fun k => ?_) this
    have e : ((i + 1 : Nat) : Int) - 1 = (i : Int) := by omega
    simp only [garmentref11_Reversed.l0]
    rw [e, if_pos (by omega), if_pos (ge0 i), if_pos (lt_cast hlt), if_pos (by omega), rd_at hlt, w64 (by omega) (by omega)]
theorem reversed_f (l : List S30) (hl : l.length ≤ 500) : Ev (fun k => garmentref11_Reversed.f k l) l.reverse := by
  have := reversed_l0 l (by omega) l.length [] (Nat.le_refl _) (by simp; omega)
  rw [List.nil_append, List.take_length] at this
  exact Ev.congr (fun k => by unfold garmentref11_Reversed.f; rw [w64 (by omega) (by omega)]) this

theorem ConvexOrder : ConvexOrder.Pure := by
  intro l t _ ht
  have ht : 0 ≤ t ∧ t < 256 := by
    unfold Lit.wf at ht
    rw [Bool.and_eq_true, decide_eq_true_eq, decide_eq_true_eq] at ht
    have h1 : IntKind.u8.min = 0 := rfl
    have h2 : IntKind.u8.max = 255 := rfl
    omega
  apply Ev.rounds
  by_cases h0 : l.length = 0
  · refine Ev.congr (f := fun k => garmentlaw14_ConvexOrder.j0 k l t true) (fun k => by unfold garmentlaw14_ConvexOrder.f; rw [if_pos (by omega)]) (Ev.step (fun k => ?_) awake_then)
    simp only [garmentlaw14_ConvexOrder.j0]
    rw [if_pos trivial]
  · by_cases h : 60 < l.length
    · refine Ev.congr (f := fun k => garmentlaw14_ConvexOrder.j0 k l t true) (fun k => by unfold garmentlaw14_ConvexOrder.f; rw [if_neg (by omega), decide_eq_true (by omega)]) (Ev.step (fun k => ?_) awake_then)
      simp only [garmentlaw14_ConvexOrder.j0]
      rw [if_pos trivial]
    · obtain ⟨u, rfl⟩ := Int.eq_ofNat_of_zero_le ht.1
      have hlp : 0 < l.length := by omega
      have hk := Nat.mod_lt u hlp
      generalize hK : u % l.length = j at hk
      have hm : Int.tmod (wrap64 (u : Int)) (l.length : Int) = (j : Int) := by rw [w64 (by omega) (by omega), ← hK]; rfl
      obtain ⟨a, ha, h1⟩ := Hull_f l
      obtain ⟨b, hb, h2⟩ := Hull_f ((l.drop j ++ l.take j).reverse ++ [l[j]])
      have e := h1.unique (h2.of_mem (by simp; omega) (by omega) (fun p => by
        rw [List.mem_append, List.mem_reverse, List.mem_append, or_comm (a := p ∈ l.drop j), ← List.mem_append, List.take_append_drop]
        constructor
        · rintro (h | h)
          · exact h
          · simp at h; rw [h]; exact List.getElem_mem hk
        · exact .inl))
      subst e
      have hlen := h1.len
      refine Ev.congr (f := fun k => garmentlaw14_ConvexOrder.j0 k l u false) (fun k => by unfold garmentlaw14_ConvexOrder.f; rw [if_neg (by omega), decide_eq_false (by omega)]) ?_
      refine Ev.step (f := fun k => (garmentref11_Reversed.f k (l.drop j ++ l.take j)).bind fun t426 => (if (j : Int) < (l.length : Int) then (if t426.length + 1 < 8796093022208 then ((convex_Hull.f k l).bind fun bt436 => ((convex_Hull.f k (t426 ++ [l[j]])).bind fun bt440 => ((garmentref11_Same.f k bt436.1 bt440.1).bind fun t444 => (if t444 = true then (if bt436.2 = bt440.2 then ((garmentlaw14_awake.f k).bind fun t445 => (some t445)) else (some false)) else (some false))))) else (none)) else (none))) (fun k => ?_) ?_
      · simp only [garmentlaw14_ConvexOrder.j0, hm]
        rw [if_neg (by simp), if_neg (by omega)]
        simp only [Option.bind_some, Int.toNat_natCast, List.nil_append, rd_at hk]
        rw [if_pos (ge0 j), if_pos (by omega), if_pos (by simp; omega), if_pos (by simp; omega)]
        rfl
      · refine Ev.bind (reversed_f _ (by simp; omega)) ?_
        refine Ev.congr (fun k => by rw [if_pos (by omega), if_pos (by simp; omega)]) ?_
        refine Ev.bind ha (Ev.bind hb (Ev.bind (same_f a.1 a.1 (by omega)) ?_))
        exact Ev.congr (fun k => by rw [decide_eq_true rfl, if_pos rfl, if_pos rfl]) awake_then
end Go.Proofs.Ytlnigbhimdphoaa.Z
