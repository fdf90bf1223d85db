/- P14.1: a hull is a hull. -/
import Derived.Test.YtlnigbhimdphoaaMLinksD
import Derived.Test.YtlnigbhimdphoaaCqConvexContains
namespace Go.Proofs.Ytlnigbhimdphoaa.Z
open Go Go.RowKit Go.Proofs.Ytlnigbhimdphoaa.C Go.Proofs.Ytlnigbhimdphoaa.Geo Go.Proofs.YtlnigbhimdphoaaW.PrintWords Go.Proofs.YtlnigbhimdphoaaW.PrintMore

theorem contains_l1 (l h : List S30) (hl : l.length ≤ 1000) (i7 : Int) (a b : S30) (ha : Far a) (hb : Far b) (hF : ∀ x ∈ l, Far x) (hc : ∀ p ∈ l, 0 ≤ cr a b p) (res : Bool)
    (hend : Ev (fun k => garmentlaw14_ConvexContains.l1 k l h i7 true (l.length : Int) a.f0 a.f1 b.f0 b.f1) res) (n : Nat) : ∀ (i : Nat) (f : Bool), i + n = l.length → (f = true ∨ a ∈ l.drop i) →
    Ev (fun k => garmentlaw14_ConvexContains.l1 k l h i7 f (i : Int) a.f0 a.f1 b.f0 b.f1) res := by
  induction n with
  | zero =>
    intro i f hi hf
    rw [List.drop_of_length_le (by omega)] at hf
    have : f = true := by simpa using hf
    rw [this, show i = l.length by omega]
    exact hend
  | succ n ih =>
    intro i f hi hf
    have hlt : i < l.length := by omega
    have hm : l[i] ∈ l := List.getElem_mem hlt
    have hc0 := hc _ hm
    cases f with
    | true =>
      refine Ev.step (fun k => ?_) (ih (i + 1) true (by omega) (.inl rfl))
      simp only [garmentlaw14_ConvexContains.l1]
      rw [if_pos (lt_cast hlt), if_pos trivial, if_pos (ge0 i), rd_at hlt, Cross_far ha hb (hF _ hm), Option.bind_some, if_neg (by omega), w64s (by omega)]
    | false =>
      refine Ev.step (fun k => ?_) (ih (i + 1) (l[i].f0 == a.f0 && l[i].f1 == a.f1) (by omega) ?_)
      · simp only [garmentlaw14_ConvexContains.l1]
        rw [if_pos (lt_cast hlt), if_neg (by simp), if_pos (ge0 i), rd_at hlt, Cross_far ha hb (hF _ hm), Option.bind_some, if_neg (by omega), w64s (by omega)]
      · rcases hf with hf | hf
        · simp at hf
        · rw [drop_at hlt] at hf
          rcases List.mem_cons.1 hf with hf | hf
          · exact .inl (by rw [← hf]; simp)
          · exact .inr hf

theorem contains_l0 (l h : List S30) (hl : l.length ≤ 1000) (hh : h.length ≤ 1000) (hF : ∀ x ∈ l, Far x) (hH : IsHull l h) (n : Nat) : ∀ i : Nat, i + n = h.length → Ev (fun k => garmentlaw14_ConvexContains.l0 k l h (i : Int)) true := by
  have hhF : ∀ x ∈ h, Far x := fun x hx => hF x (hH.mem x hx)
  have hp := hH.pos
  induction n with
  | zero =>
    intro i hi
    refine Ev.step (fun k => ?_) awake_then
    simp only [garmentlaw14_ConvexContains.l0]
    rw [if_neg (nlt_cast (by omega))]
  | succ n ih =>
    intro i hi
    have hlt : i < h.length := by omega
    have hm1 := Nat.mod_lt (i + 1) hp
    have hm2 := Nat.mod_lt (i + 2) hp
    have e0 : h[i] = nth h i := (nth_lt h i hlt).symm
    refine Ev.step (f := fun k => garmentlaw14_ConvexContains.l1 k l h (i : Int) false ((0 : Nat) : Int) (nth h i).f0 (nth h i).f1 (nth h (i + 1)).f0 (nth h (i + 1)).f1) (fun k => ?_) ?_
    · simp only [garmentlaw14_ConvexContains.l0]
      rw [if_pos (lt_cast hlt), if_pos (ge0 i), if_neg (by omega), w64s (by omega), tmod_cast, if_pos (by omega), if_pos (by omega), rd_at hlt, rd_nth hp, e0]
      rfl
    · refine contains_l1 l h hl _ _ _ (nth_far hhF hp _) (nth_far hhF hp _) hF (hH.left i) true ?_ l.length 0 false (by omega) (.inr (by rw [List.drop_zero]; exact hH.nthm i))
      have ht := hH.turn i
      have w2 : wrap64 ((i : Int) + 2) = ((i + 2 : Nat) : Int) := by rw [w64 (by omega) (by omega)]; rfl
      refine Ev.step (f := fun k => garmentlaw14_ConvexContains.j3 k l h (i : Int) false) (fun k => ?_) ?_
      · simp only [garmentlaw14_ConvexContains.l1]
        rw [if_neg (by omega), if_pos trivial, if_neg (by omega), w2, tmod_cast, if_pos (by omega), if_pos (by omega), rd_nth hp, Cross_far (nth_far hhF hp _) (nth_far hhF hp _) (nth_far hhF hp _), Option.bind_some, if_neg (by omega)]
        by_cases c : (i : Int) > 0
        · have hf := hH.first i (by omega) hlt
          have e : rd_T30 h 0 = nth h 0 := by
            have := rd_at (l := h) (i := 0) hp
            rw [nth_lt h 0 hp]
            exact this
          rw [if_pos c, if_pos (by omega), e, less_eq, Option.bind_some, decide_eq_true hf]
          rfl
        · rw [if_neg c]
      · refine Ev.step (fun k => ?_) (ih (i + 1) (by omega))
        simp only [garmentlaw14_ConvexContains.j3]
        rw [if_neg (by simp), w64s (by omega)]

theorem ConvexContains : ConvexContains.Pure := by
  intro l _
  apply Ev.rounds
  by_cases h : 60 < l.length
  · exact Ev.congr (fun k => by unfold garmentlaw14_ConvexContains.f; rw [if_pos (by omega)]) awake_then
  · obtain ⟨r, hr, h1⟩ := Hull_f l
    refine Ev.congr (fun k => by unfold garmentlaw14_ConvexContains.f; rw [if_neg (by omega)]) (Ev.bind hr ?_)
    by_cases c : r.2 = 0
    · obtain ⟨h2, hF, hL, hH⟩ := h1.zero c
      obtain ⟨s, hs, h3⟩ := Hull_f r.1
      have e := h3.unique (h1.again c)
      subst e
      have hlen := h1.len
      have h4 := hH.three
      have h5 := nodup_len hH.nodup hH.mem
      refine Ev.congr (fun k => by rw [if_pos c]) (Ev.bind hs ?_)
      refine Ev.congr (fun k => by rw [if_pos rfl]) (Ev.bind (same_f r.1 r.1 (by omega)) ?_)
      refine Ev.congr (f := fun k => garmentlaw14_ConvexContains.j0 k l r.1 false) (fun k => by rw [decide_eq_true rfl, if_pos rfl, if_neg (by omega), decide_eq_false (by omega)]) ?_
      refine Ev.step (f := fun k => garmentlaw14_ConvexContains.l0 k l r.1 ((0 : Nat) : Int)) (fun k => ?_) (contains_l0 l r.1 (by omega) (by omega) hF hH r.1.length 0 (by omega))
      simp only [garmentlaw14_ConvexContains.j0]
      rw [if_neg (by simp)]
      rfl
    · refine Ev.congr (fun k => by rw [if_neg c, if_pos (by rw [h1.other c]; rfl)]) awake_then
end Go.Proofs.Ytlnigbhimdphoaa.Z
