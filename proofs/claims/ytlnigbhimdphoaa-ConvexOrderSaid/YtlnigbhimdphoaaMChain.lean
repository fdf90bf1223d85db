/- The monotone chains: the two halves of a hull, out of the sorted points. Plain geometry; no function of the program stands here. -/
import Derived.Test.YtlnigbhimdphoaaMWrap
namespace Go.Proofs.Ytlnigbhimdphoaa.Geo
open Go.Proofs.Ytlnigbhimdphoaa.C Go.Proofs.Ytlnigbhimdphoaa.Vec
def pop (s : S30) : List S30 → List S30
  | b :: a :: r => if cr a b s ≤ 0 then pop s (a :: r) else b :: a :: r
  | l => l
/-- the chain, its last point first -/
def chainR (l : List S30) : List S30 := l.foldl (fun st s => s :: pop s st) []
def chain (l : List S30) : List S30 := (chainR l).tail.reverse

/-- what a chain is: sorted, all points to the left of its sides, turning strictly to the left -/
def Good (P : List S30) : List S30 → Prop
  | b :: a :: r => lt a b ∧ (∀ p ∈ P, 0 ≤ cr a b p) ∧ (∀ c r', r = c :: r' → 0 < cr c a b) ∧ Good P (a :: r)
  | _ => True

theorem lexH {a b : S30} (h : lt a b) : H 0 (-1) (b.f0 - a.f0) (b.f1 - a.f1) := by unfold H; unfold lt at h; omega

theorem interp {x y p a s : S30} (hxy : lt x y) (h1 : ¬ lt p x) (h2 : ¬ lt y p) (h3 : 0 ≤ cr x y p) (has : lt a s) (fx : 0 ≤ cr a s x) (fy : 0 ≤ cr a s y) : 0 ≤ cr a s p := by
  unfold lt at hxy h1 h2 has
  by_cases w : x.f0 < y.f0
  · have e : (y.f0 - x.f0) * cr a s p = (p.f0 - x.f0) * cr a s y + (y.f0 - p.f0) * cr a s x + (s.f0 - a.f0) * cr x y p := by unfold cr; grind
    apply nonneg_of_mul (show 0 < y.f0 - x.f0 by omega)
    rw [e]
    exact Int.add_nonneg (Int.add_nonneg (Int.mul_nonneg (by omega) fy) (Int.mul_nonneg (by omega) fx)) (Int.mul_nonneg (by omega) h3)
  · have e0 : y.f0 = x.f0 := by omega
    have e1 : p.f0 = x.f0 := by omega
    have e : (y.f1 - x.f1) * cr a s p = (p.f1 - x.f1) * cr a s y + (y.f1 - p.f1) * cr a s x := by unfold cr; rw [e0, e1]; grind
    apply nonneg_of_mul (show 0 < y.f1 - x.f1 by omega)
    rw [e]
    exact Int.add_nonneg (Int.mul_nonneg (by omega) fy) (Int.mul_nonneg (by omega) fx)

theorem lt_of_not {a b c : S30} (h1 : ¬ lt b a) (h2 : lt b c) : lt a c := by unfold lt at *; omega

theorem good_tail {P : List S30} {b : S30} {r : List S30} (h : Good P (b :: r)) : Good P r := by
  cases r with
  | nil => trivial
  | cons a r => exact h.2.2.2
theorem good_lt {P : List S30} : ∀ {r : List S30} {b : S30}, Good P (b :: r) → ∀ x ∈ r, lt x b
  | [], _, _, _, h => by simp at h
  | a :: r, b, h, x, hx => by
    rcases List.mem_cons.1 hx with rfl | hx
    · exact h.1
    · exact lt_trans (good_lt (good_tail h) x hx) h.1

/-- what popping leaves -/
theorem pop_spec {P : List S30} {s : S30} (hs : ∀ p ∈ P, lt p s) : ∀ (r : List S30) (b : S30), Good P (b :: r) → (∀ x ∈ b :: r, x ∈ P) → (∀ p ∈ P, ¬ lt p b → 0 ≤ cr b s p) →
    ∃ b' r', pop s (b :: r) = b' :: r' ∧ Good P (b' :: r') ∧ (∀ x ∈ b' :: r', x ∈ b :: r) ∧ (∀ p ∈ P, ¬ lt p b' → 0 ≤ cr b' s p) ∧ (∀ a r'', r' = a :: r'' → 0 < cr a b' s) ∧ (b' :: r').getLast? = (b :: r).getLast?
  | [], b, hG, hm, hp => ⟨b, [], rfl, hG, fun _ h => h, hp, fun _ _ h => by simp at h, rfl⟩
  | a :: r, b, hG, hm, hp => by
    unfold pop
    by_cases c : cr a b s ≤ 0
    · rw [if_pos c]
      have ha : a ∈ P := hm a (by simp)
      have hb : b ∈ P := hm b (by simp)
      have hfb : 0 ≤ cr a s b := by rw [cr_swap]; omega
      obtain ⟨b', r', e1, e2, e3, e4, e5, e6⟩ := pop_spec hs r a (good_tail hG) (fun x hx => hm x (List.mem_cons_of_mem _ hx)) (fun p hpP hpa => by
        by_cases hpb : lt p b
        · exact interp hG.1 hpa (not_lt_of_lt hpb) (hG.2.1 p hpP) (hs a ha) (by rw [cr_self']; exact Int.le_refl _) hfb
        · exact interp (hs b hb) hpb (not_lt_of_lt (hs p hpP)) (hp p hpP hpb) (hs a ha) hfb (by rw [cr_self]; exact Int.le_refl _))
      exact ⟨b', r', e1, e2, fun x hx => List.mem_cons_of_mem _ (e3 x hx), e4, e5, by rw [e6]; simp⟩
    · rw [if_neg c]
      refine ⟨b, a :: r, rfl, hG, fun _ h => h, hp, fun a' r'' h => ?_, rfl⟩
      injection h with h1 h2
      subst h1
      omega

theorem good_add {P : List S30} {s : S30} : ∀ (r : List S30) (b : S30), Good P (b :: r) → lt b s → (∀ a r', r = a :: r' → 0 < cr a b s) → Good (P ++ [s]) (b :: r)
  | [], _, _, _, _ => trivial
  | a :: r, b, hG, hbs, ht => by
    have h0 := ht a r rfl
    refine ⟨hG.1, fun p hp => ?_, hG.2.2.1, good_add r a (good_tail hG) (lt_trans hG.1 hbs) (fun c r' e => ?_)⟩
    · rcases List.mem_append.1 hp with hp | hp
      · exact hG.2.1 p hp
      · simp at hp; subst hp; omega
    · have h1 := hG.2.2.1 c r' e
      subst e
      have hca : lt c a := hG.2.2.2.1
      have := H.trans_lt (lexH hca) (lexH hG.1) (lexH (lt_trans hG.1 hbs)) (by
        have : (a.f0 - c.f0) * (b.f1 - a.f1) - (a.f1 - c.f1) * (b.f0 - a.f0) = cr c a b := by unfold cr; grind
        omega) (by
        have : (b.f0 - a.f0) * (s.f1 - a.f1) - (b.f1 - a.f1) * (s.f0 - a.f0) = cr a b s := by unfold cr; grind
        omega) (.inl (by
        have : (a.f0 - c.f0) * (b.f1 - a.f1) - (a.f1 - c.f1) * (b.f0 - a.f0) = cr c a b := by unfold cr; grind
        omega))
      have e : (a.f0 - c.f0) * (s.f1 - a.f1) - (a.f1 - c.f1) * (s.f0 - a.f0) = cr c a s := by unfold cr; grind
      omega

/-- the chain of the points seen so far -/
structure Chained (P st : List S30) : Prop where
  good : Good P st
  mem : ∀ x ∈ st, x ∈ P
  top : st.head? = P.getLast?
  bot : st.getLast? = P.head?
  two : 2 ≤ P.length → 2 ≤ st.length

theorem chained_step {P st : List S30} {s : S30} (hne : P ≠ []) (hsort : List.Pairwise lt (P ++ [s])) (h : Chained P st) : Chained (P ++ [s]) (s :: pop s st) := by
  rw [List.pairwise_append] at hsort
  obtain ⟨hP, _, hs⟩ := hsort
  have hs : ∀ p ∈ P, lt p s := fun p hp => hs p hp s (by simp)
  obtain ⟨t, ht⟩ : ∃ t, P.getLast? = some t := by
    cases hl : P.getLast? with
    | none => rw [List.getLast?_eq_none_iff] at hl; exact absurd hl hne
    | some t => exact ⟨t, rfl⟩
  obtain ⟨m, hm⟩ : ∃ m, P.head? = some m := by
    cases P with
    | nil => exact absurd rfl hne
    | cons m r => exact ⟨m, rfl⟩
  have hlast : ∀ p ∈ P, p = t ∨ lt p t := by
    obtain ⟨ys, rfl⟩ := List.getLast?_eq_some_iff.1 ht
    rw [List.pairwise_append] at hP
    intro p hp
    rcases List.mem_append.1 hp with hp | hp
    · exact .inr (hP.2.2 p hp t (by simp))
    · simp at hp; exact .inl hp
  have hfirst : ∀ p ∈ P, ¬ lt p m := by
    cases P with
    | nil => exact absurd rfl hne
    | cons x r =>
      simp at hm
      subst hm
      rw [List.pairwise_cons] at hP
      intro p hp
      rcases List.mem_cons.1 hp with rfl | hp
      · exact lt_irrefl _
      · exact not_lt_of_lt (hP.1 p hp)
  cases st with
  | nil => have := h.top; rw [ht] at this; simp at this
  | cons b r =>
    have hb : b = t := by have := h.top; rw [ht] at this; simpa using this
    subst hb
    obtain ⟨b', r', e1, e2, e3, e4, e5, e6⟩ := pop_spec hs r b h.good h.mem (fun p hp hpb => by
      rcases hlast p hp with rfl | h
      · rw [cr_self']; exact Int.le_refl _
      · exact absurd h hpb)
    rw [e1]
    have hb' : b' ∈ P := h.mem b' (e3 b' (by simp))
    refine ⟨⟨hs b' hb', fun p hp => ?_, fun c r'' e => e5 c r'' e, good_add r' b' e2 (hs b' hb') e5⟩, fun x hx => ?_, by simp, ?_, by simp⟩
    · rcases List.mem_append.1 hp with hp | hp
      · by_cases hpb : lt p b'
        · cases r' with
          | nil =>
            exfalso
            have hb := h.bot
            rw [← e6, hm] at hb
            simp at hb
            subst hb
            exact hfirst p hp hpb
          | cons a r'' =>
            have h5 := e5 a r'' rfl
            have h6 := e2.2.1 p hp
            have e7 : (b'.f0 - p.f0) * (b'.f1 - a.f1) - (b'.f1 - p.f1) * (b'.f0 - a.f0) = cr a b' p := by unfold cr; grind
            have e8 : (b'.f0 - a.f0) * (s.f1 - b'.f1) - (b'.f1 - a.f1) * (s.f0 - b'.f0) = cr a b' s := by unfold cr; grind
            have e9 : (b'.f0 - p.f0) * (s.f1 - b'.f1) - (b'.f1 - p.f1) * (s.f0 - b'.f0) = cr b' s p := by unfold cr; grind
            rw [← e9]
            exact H.trans (lexH hpb) (lexH e2.1) (lexH (hs b' hb')) (by omega) (by omega)
        · exact e4 p hp hpb
      · simp at hp; subst hp; rw [cr_self]; exact Int.le_refl _
    · rcases List.mem_cons.1 hx with rfl | hx
      · simp
      · exact List.mem_append_left _ (h.mem x (e3 x hx))
    · rw [List.getLast?_cons_cons, e6, h.bot]
      cases P with
      | nil => exact absurd rfl hne
      | cons x r => rfl

theorem chained_all : ∀ (rest P st : List S30), P ≠ [] → List.Pairwise lt (P ++ rest) → Chained P st → Chained (P ++ rest) (rest.foldl (fun st s => s :: pop s st) st)
  | [], P, st, _, _, h => by simpa using h
  | s :: r, P, st, hne, hs, h => by
    have hs' : List.Pairwise lt ((P ++ [s]) ++ r) := by simpa using hs
    have := chained_all r (P ++ [s]) _ (by simp) hs' (chained_step hne (List.Pairwise.sublist (List.sublist_append_left _ _) hs') h)
    simpa using this

/-- THE CHAIN OF SORTED POINTS. -/
theorem chained {l : List S30} (h : List.Pairwise lt l) (hne : l ≠ []) : Chained l (chainR l) := by
  cases l with
  | nil => exact absurd rfl hne
  | cons x r =>
    have := chained_all r [x] [x] (by simp) (by simpa using h) ⟨trivial, by simp, by simp, by simp, by simp⟩
    exact this

/-- by places -/
theorem good_at {P : List S30} : ∀ (st : List S30), Good P st → ∀ i (h : i + 1 < st.length), lt st[i + 1] st[i] ∧ (∀ p ∈ P, 0 ≤ cr st[i + 1] st[i] p) ∧ (∀ h2 : i + 2 < st.length, 0 < cr st[i + 2] st[i + 1] st[i])
  | [], _, i, h => by simp at h
  | [_], _, i, h => by simp at h
  | b :: a :: r, hG, i, h => by
    cases i with
    | zero =>
      refine ⟨hG.1, hG.2.1, fun h2 => ?_⟩
      cases r with
      | nil => simp at h2
      | cons c r => exact hG.2.2.1 c r rfl
    | succ i =>
      have := good_at (a :: r) (good_tail hG) i (by simp at h ⊢; omega)
      exact ⟨this.1, this.2.1, fun h2 => this.2.2 (by simp at h2 ⊢; omega)⟩
end Go.Proofs.Ytlnigbhimdphoaa.Geo
