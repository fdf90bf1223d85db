/- P14.1, P14.3, P14.4: a point is in the interior exactly if it changes nothing and lies on no side; then it lies below the support in every direction. -/
import Derived.Test.YtlnigbhimdphoaaMLinksA
import Derived.Test.YtlnigbhimdphoaaMLinksN
import Derived.Test.YtlnigbhimdphoaaMGeo
import Derived.Test.YtlnigbhimdphoaaCqConvexInterior
namespace Go.Proofs.Ytlnigbhimdphoaa.Z
open Go Go.RowKit Go.Proofs.Ytlnigbhimdphoaa.C Go.Proofs.Ytlnigbhimdphoaa.Geo Go.Proofs.YtlnigbhimdphoaaW.PrintWords Go.Proofs.YtlnigbhimdphoaaW.PrintMore

instance (a b q : S30) : Decidable (OnSide a b q) := by unfold OnSide; infer_instance
theorem mnmx {a b q : Int} : (mn a b ≤ q ∧ q ≤ mx a b) ↔ ((a ≤ q ∧ q ≤ b) ∨ (b ≤ q ∧ q ≤ a)) := by unfold mn mx; split <;> split <;> omega
theorem between_f {a b q : S30} (ha : Far a) (hb : Far b) (hq : Far q) : garmentref11_Between.f a.f0 a.f1 b.f0 b.f1 q.f0 q.f1 = some (decide (OnSide a b q)) := by
  unfold garmentref11_Between.f
  rw [Cross_far ha hb hq, Option.bind_some]
  have m0 := mnmx (a := a.f0) (b := b.f0) (q := q.f0)
  have m1 := mnmx (a := a.f1) (b := b.f1) (q := q.f1)
  have e : OnSide a b q ↔ (cr a b q = 0 ∧ (mn a.f0 b.f0 ≤ q.f0 ∧ q.f0 ≤ mx a.f0 b.f0) ∧ (mn a.f1 b.f1 ≤ q.f1 ∧ q.f1 ≤ mx a.f1 b.f1)) := by unfold OnSide; rw [m0, m1]
  rw [show decide (OnSide a b q) = decide (cr a b q = 0 ∧ (mn a.f0 b.f0 ≤ q.f0 ∧ q.f0 ≤ mx a.f0 b.f0) ∧ (mn a.f1 b.f1 ≤ q.f1 ∧ q.f1 ≤ mx a.f1 b.f1)) from decide_eq_decide.2 e]
  clear m0 m1
  by_cases c0 : cr a b q = 0
  · by_cases c1 : mn a.f0 b.f0 ≤ q.f0
    · by_cases c2 : q.f0 ≤ mx a.f0 b.f0
      · by_cases c3 : mn a.f1 b.f1 ≤ q.f1
        · simp [c0, c1, c2, c3]
        · simp [c0, c1, c2, c3]
      · simp [c0, c1, c2]
    · simp [c0, c1]
  · simp [c0]

/-- q lies on a side from side i on -/
def onH (h : List S30) (q : S30) (i : Nat) : Prop := ∃ j, j < h.length ∧ i ≤ j ∧ OnSide (nth h j) (nth h (j + 1)) q
instance (h : List S30) (q : S30) (i : Nat) : Decidable (onH h q i) := by unfold onH; infer_instance
theorem on_l0 (l h m : List S30) (b : Bool) (e : Int) (q d : S30) (hl : h.length ≤ 1000) (hF : ∀ x ∈ h, Far x) (hq : Far q) (res : Bool) (n : Nat) : ∀ (i : Nat) (o : Bool), i + n = h.length →
    Ev (fun k => garmentlaw14_ConvexInterior.l0 k l h b m e (o || decide (onH h q i)) (h.length : Int) q.f0 q.f1 d.f0 d.f1) res → Ev (fun k => garmentlaw14_ConvexInterior.l0 k l h b m e o (i : Int) q.f0 q.f1 d.f0 d.f1) res := by
  induction n with
  | zero =>
    intro i o hi hr
    have : ¬ onH h q i := by rintro ⟨j, h1, h2, _⟩; omega
    rw [decide_eq_false this, Bool.or_false] at hr
    rw [show i = h.length by omega]
    exact hr
  | succ n ih =>
    intro i o hi hr
    have hlt : i < h.length := by omega
    have hp : 0 < h.length := by omega
    have hm := Nat.mod_lt (i + 1) hp
    have e1 : h[i] = nth h i := (nth_lt h i hlt).symm
    have hstep : onH h q i ↔ (OnSide (nth h i) (nth h (i + 1)) q ∨ onH h q (i + 1)) := by
      constructor
      · rintro ⟨j, h1, h2, h3⟩
        by_cases c : j = i
        · subst c; exact .inl h3
        · exact .inr ⟨j, h1, by omega, h3⟩
      · rintro (h3 | ⟨j, h1, h2, h3⟩)
        · exact ⟨i, hlt, Nat.le_refl _, h3⟩
        · exact ⟨j, h1, by omega, h3⟩
    cases o with
    | true =>
      refine Ev.step (f := fun k => garmentlaw14_ConvexInterior.l0 k l h b m e true ((i + 1 : Nat) : Int) q.f0 q.f1 d.f0 d.f1) (fun k => ?_) (ih (i + 1) true (by omega) (by simpa using hr))
      rw [garmentlaw14_ConvexInterior.l0]
      rw [if_pos (lt_cast hlt), if_pos rfl, w64s (by omega)]
    | false =>
      refine Ev.step (f := fun k => garmentlaw14_ConvexInterior.l0 k l h b m e (decide (OnSide (nth h i) (nth h (i + 1)) q)) ((i + 1 : Nat) : Int) q.f0 q.f1 d.f0 d.f1) (fun k => ?_) (ih (i + 1) _ (by omega) ?_)
      · rw [garmentlaw14_ConvexInterior.l0]
        rw [if_pos (lt_cast hlt), if_neg (by simp), if_pos (ge0 i), if_neg (by omega), w64s (by omega), tmod_cast, if_pos (by omega), if_pos (by omega), rd_at hlt, rd_nth hp, e1, between_f (nth_far hF hp _) (nth_far hF hp _) hq, Option.bind_some]
      · have : (decide (OnSide (nth h i) (nth h (i + 1)) q) || decide (onH h q (i + 1))) = (false || decide (onH h q i)) := by
          rw [Bool.false_or, Bool.eq_iff_iff, Bool.or_eq_true, decide_eq_true_eq, decide_eq_true_eq, decide_eq_true_eq, hstep]
        rw [this]
        exact hr

theorem ConvexInterior : ConvexInterior.Pure := by
  intro l q0 q1 d0 d1 _ _ _
  apply Ev.rounds
  have rest : Ev (fun k => garmentlaw14_ConvexInterior.j0 k l true q0 q1 d0 d1) true := Ev.step (fun k => by rw [garmentlaw14_ConvexInterior.j0, if_pos rfl]) awake_then
  by_cases hlen : 60 < l.length
  · exact Ev.congr (fun k => by unfold garmentlaw14_ConvexInterior.f; rw [if_pos (by omega)]) rest
  · obtain ⟨b, hb, hn⟩ := near_f l (by omega)
    refine Ev.congr (fun k => by unfold garmentlaw14_ConvexInterior.f; rw [if_neg (by omega)]) (Ev.bind hb ?_)
    cases b with
    | false => exact Ev.congr (fun k => by rw [if_neg (by simp)]) rest
    | true =>
      have wq := within_eq (⟨q0, q1⟩ : S30) 1048576 (by omega)
      simp only at wq
      by_cases cq : (-1048576 ≤ q0 ∧ q0 ≤ 1048576) ∧ (-1048576 ≤ q1 ∧ q1 ≤ 1048576)
      · have wd := within_eq (⟨d0, d1⟩ : S30) 1000 (by omega)
        simp only at wd
        by_cases cd : (-1000 ≤ d0 ∧ d0 ≤ 1000) ∧ (-1000 ≤ d1 ∧ d1 ≤ 1000)
        · refine Ev.congr (f := fun k => garmentlaw14_ConvexInterior.j0 k l false q0 q1 d0 d1) (fun k => by rw [if_pos rfl, wq, Option.bind_some, if_pos (by simpa using cq), wd, Option.bind_some, decide_eq_true cd]; rfl) ?_
          have hF : ∀ x ∈ l, Far x := fun x hx => by have := hn rfl x hx; unfold Far; omega
          have qF : Far (⟨q0, q1⟩ : S30) := by unfold Far; simp only; omega
          obtain ⟨a, ha, h1⟩ := Hull_f l
          have hi := Inside_f ha h1 (⟨q0, q1⟩ : S30)
          simp only at hi
          refine Ev.step (f := fun k => (convex_Hull.f k l).bind fun bt494 => ((convex_Inside.f k l q0 q1).bind fun bt498 => (if bt494.2 = 0 then (garmentlaw14_ConvexInterior.j1 k l bt494.1 bt494.2 bt498.1 bt498.2 (bt498.2 != 0) q0 q1 d0 d1) else (garmentlaw14_ConvexInterior.j1 k l bt494.1 bt494.2 bt498.1 bt498.2 true q0 q1 d0 d1)))) (fun k => by rw [garmentlaw14_ConvexInterior.j0, if_neg (by simp)]) (Ev.bind ha (Ev.bind hi ?_))
          by_cases c0 : a.2 = 0
          · obtain ⟨l1, _, hL, hH⟩ := h1.zero c0
            have hfar := h1.far
            have hlen' := h1.len
            have hp := hH.pos
            have ei : insideOf a (⟨q0, q1⟩ : S30) = (decide (inH a.1 (⟨q0, q1⟩ : S30) 0), 0) := by
              unfold insideOf
              rw [if_pos c0]
              congr 1
              exact decide_eq_decide.2 ⟨fun h => h.2, fun h => ⟨qF, h⟩⟩
            rw [ei]
            obtain ⟨m, hm, h2⟩ := Hull_f (l ++ [(⟨q0, q1⟩ : S30)])
            have mL : ¬ Coll (l ++ [(⟨q0, q1⟩ : S30)]) := fun hc => hL (fun x hx y hy z hz => hc x (List.mem_append_left _ hx) y (List.mem_append_left _ hy) z (List.mem_append_left _ hz))
            have h2' : m.2 = 0 ∧ IsHull (l ++ [(⟨q0, q1⟩ : S30)]) m.1 := by
              unfold HullIs at h2
              rw [if_neg (by simp; omega), if_neg (fun h => h (fun x hx => by
                rcases List.mem_append.1 hx with hx | hx
                · exact hF x hx
                · simp at hx; subst hx; exact qF))] at h2
              rcases h2 with ⟨h2, _⟩ | ⟨_, h2, h3⟩
              · exact absurd h2 mL
              · exact ⟨h2, h3⟩
            have inner : inH a.1 (⟨q0, q1⟩ : S30) 0 ↔ Inner a.1 (⟨q0, q1⟩ : S30) := by
              constructor
              · intro h i
                have := h (i % a.1.length) (Nat.zero_le _) (Nat.mod_lt i hp)
                rwa [nth_mod, nth_shift] at this
              · intro h j _ _
                exact h j
            have key : decide (inH a.1 (⟨q0, q1⟩ : S30) 0) = (decide (m.1 = a.1) && !decide (onH a.1 (⟨q0, q1⟩ : S30) 0)) := by
              rw [Bool.eq_iff_iff, Bool.and_eq_true, decide_eq_true_eq, decide_eq_true_eq, Bool.not_eq_true', decide_eq_false_iff_not, inner]
              constructor
              · intro h
                refine ⟨h2'.2.unique (h.hull hH), ?_⟩
                rintro ⟨j, _, _, h3, _⟩
                have := h j
                omega
              · rintro ⟨e, ho⟩ i
                have hH' := h2'.2
                rw [e] at hH'
                have l1 := hH'.left i (⟨q0, q1⟩ : S30) (by simp)
                rcases Int.lt_or_eq_of_le l1 with h | h
                · exact h
                · exfalso
                  have os := hH'.on_side (q := (⟨q0, q1⟩ : S30)) (by simp) i h.symm
                  refine ho ⟨i % a.1.length, Nat.mod_lt i hp, Nat.zero_le _, ?_⟩
                  rwa [nth_mod, nth_shift]
            refine Ev.congr (f := fun k => garmentlaw14_ConvexInterior.j1 k l a.1 a.2 (decide (inH a.1 (⟨q0, q1⟩ : S30) 0)) 0 false q0 q1 d0 d1) (fun k => by rw [if_pos c0]; rfl) ?_
            refine Ev.step (f := fun k => (convex_Hull.f k (l ++ [(⟨q0, q1⟩ : S30)])).bind fun bt513 => (garmentlaw14_ConvexInterior.l0 k l a.1 (decide (inH a.1 (⟨q0, q1⟩ : S30) 0)) bt513.1 bt513.2 false 0 q0 q1 d0 d1)) (fun k => ?_) (Ev.bind hm ?_)
            · rw [garmentlaw14_ConvexInterior.j1, if_neg (by simp)]
              simp only [Option.bind_some, List.nil_append, List.length_nil, List.length_cons]
              rw [if_pos (by omega), if_pos (by omega)]
            · refine on_l0 l a.1 m.1 _ m.2 (⟨q0, q1⟩ : S30) (⟨d0, d1⟩ : S30) (by omega) hfar qF true a.1.length 0 false (by omega) ?_
              rw [Bool.false_or]
              generalize ho : decide (onH a.1 (⟨q0, q1⟩ : S30) 0) = o at key
              have hj3 : Ev (fun k => garmentlaw14_ConvexInterior.j3 k l (decide (inH a.1 (⟨q0, q1⟩ : S30) 0)) false q0 q1 d0 d1) true := by
                by_cases ci : inH a.1 (⟨q0, q1⟩ : S30) 0
                · by_cases cz : d0 = 0 ∧ d1 = 0
                  · refine Ev.step (fun k => ?_) awake_then
                    rw [garmentlaw14_ConvexInterior.j3, if_neg (by simp), if_pos (by simpa using ci), if_pos (by simp [cz])]
                  · have hlne : l ≠ [] := by intro e; rw [e] at hL; exact hL (by intro x hx; simp at hx)
                    obtain ⟨_, s2⟩ := supOf_spec hlne hF (x := d0) (y := d1) (by omega) (by omega)
                    obtain ⟨v, hv, hlt⟩ := (inner.1 ci).below hH d0 d1 cz
                    have s3 := s2 v (hH.mem v hv)
                    simp only at hlt
                    rw [Int.mul_comm d0, Int.mul_comm d1, Int.mul_comm d0, Int.mul_comm d1] at hlt
                    have m1 := mul_bound (A := 1048576) (B := 1000) (x := q0) (y := d0) (by omega) (by omega)
                    have m2 := mul_bound (A := 1048576) (B := 1000) (x := q1) (y := d1) (by omega) (by omega)
                    refine Ev.step (f := fun k => (convex_Support.f k l d0 d1).bind fun t522 => (if (wrap64 ((wrap64 (q0 * d0)) + (wrap64 (q1 * d1)))) < t522 then ((garmentlaw14_awake.f k).bind fun t523 => (some t523)) else (some false))) (fun k => ?_) (Ev.bind (Support_f l (by omega) d0 d1) ?_)
                    · rw [garmentlaw14_ConvexInterior.j3, if_neg (by simp), if_pos (by simpa using ci), if_neg (by simpa using cz)]
                    · exact Ev.congr (fun k => by rw [w64 (i := q0 * d0) (by omega) (by omega), w64 (i := q1 * d1) (by omega) (by omega), w64 (by omega) (by omega), if_pos (by omega)]) awake_then
                · refine Ev.step (fun k => ?_) awake_then
                  rw [garmentlaw14_ConvexInterior.j3, if_neg (by simp), if_neg (by simpa using ci)]
              refine Ev.step (f := fun k => (garmentref11_Same.f k m.1 a.1).bind fun t520 => (if t520 = true then (garmentlaw14_ConvexInterior.j3 k l (decide (inH a.1 (⟨q0, q1⟩ : S30) 0)) (decide (inH a.1 (⟨q0, q1⟩ : S30) 0) != (!o)) q0 q1 d0 d1) else (garmentlaw14_ConvexInterior.j3 k l (decide (inH a.1 (⟨q0, q1⟩ : S30) 0)) (decide (inH a.1 (⟨q0, q1⟩ : S30) 0) != false) q0 q1 d0 d1))) (fun k => ?_) (Ev.bind (same_f m.1 a.1 (by have := h2.len; omega)) ?_)
              · rw [garmentlaw14_ConvexInterior.l0, if_neg (by omega), if_pos h2'.1]
              · refine Ev.congr (fun k => ?_) hj3
                generalize decide (inH a.1 (⟨q0, q1⟩ : S30) 0) = x at *
                generalize decide (m.1 = a.1) = y at *
                subst key
                cases y <;> cases o <;> rfl
          · have ei : insideOf a (⟨q0, q1⟩ : S30) = (false, a.2) := by unfold insideOf; rw [if_neg c0]
            rw [ei]
            refine Ev.congr (f := fun k => garmentlaw14_ConvexInterior.j1 k l a.1 a.2 false a.2 true q0 q1 d0 d1) (fun k => by rw [if_neg c0]) (Ev.step (fun k => ?_) awake_then)
            rw [garmentlaw14_ConvexInterior.j1, if_pos rfl, if_pos rfl, if_neg (by simp)]
        · exact Ev.congr (fun k => by rw [if_pos rfl, wq, Option.bind_some, if_pos (by simpa using cq), wd, Option.bind_some, decide_eq_false cd]; rfl) rest
      · exact Ev.congr (fun k => by rw [if_pos rfl, wq, Option.bind_some, if_neg (by simpa using cq)]) rest
end Go.Proofs.Ytlnigbhimdphoaa.Z
