/- Lost and Finish, the program's and the reference's: what they come to. -/
import Derived.Test.YtlglnbcglafjnaaZLoops
namespace Go.Proofs.Ytlglnbcglafjnaa.Z
open Go Go.RowKit Go.Proofs.Ytlglnbcglafjnaa.M Go.Proofs.YtlglnbcglafjnaaW.PrintWords Go.Proofs.YtlglnbcglafjnaaW.PrintMore

theorem rlost_l0 (l : List S36) (hl : l.length ≤ 1000) (m e : Int) (he : e ≤ 1073741824) (n : Nat) : ∀ (c t : Int), (e - t).toNat ≤ n → 0 ≤ c → c ≤ t → 0 ≤ t → t ≤ 1073741824 → Ev (fun k => garmentref48_Lost.l0 k l m c e t) (c + lost (dn l m) t e) := by
  induction n with
  | zero =>
    intro c t h1 h2 h3 h4 h5
    rw [lost_none _ (by omega), Int.add_zero]
    exact Ev.step (f := fun _ => some c) (fun k => by simp only [garmentref48_Lost.l0]; rw [if_neg (by omega)]) (Ev.now _)
  | succ n ih =>
    intro c t h1 h2 h3 h4 h5
    by_cases hlt : t < e
    · obtain ⟨g1, g2, _⟩ := nxt_spec l m t e hlt
      have hs := nxt_same l m t e hlt
      have hn := next_ev l hl m t e
      generalize nxt l m t e = z at g1 g2 hs hn
      refine Ev.step (fun k => by simp only [garmentref48_Lost.l0]; rw [if_pos hlt]) (Ev.bind hn (Ev.bind (rup_ev l hl m t) ?_))
      rw [lost_split _ (show t ≤ z by omega) g2]
      cases hd : dn l m t with
      | false =>
        rw [hd] at hs
        rw [lost_false hs, Int.zero_add]
        exact Ev.congr (fun k => by rw [if_pos (by simp)]) (ih c z (by omega) h2 (by omega) (by omega) (by omega))
      | true =>
        rw [hd] at hs
        rw [lost_true (by omega) hs]
        have := ih (c + (z - t)) z (by omega) (by omega) (by omega) (by omega) (by omega)
        rw [show c + (z - t + lost (dn l m) z e) = c + (z - t) + lost (dn l m) z e by omega]
        refine Ev.congr (fun k => ?_) this
        rw [if_neg (by simp), w64 (i := c + z) (by omega) (by omega), w64 (by omega) (by omega), show c + z - t = c + (z - t) by omega]
    · rw [lost_none _ (by omega), Int.add_zero]
      exact Ev.step (f := fun _ => some c) (fun k => by simp only [garmentref48_Lost.l0]; rw [if_neg hlt]) (Ev.now _)

theorem rlost_ev (l : List S36) (hl : l.length ≤ 1000) (m a b : Int) : Ev (fun k => garmentref48_Lost.f k l m a b) (lost (dn l m) (lim a) (lim b)) := by
  have ha := lim_bd a
  have hb := lim_bd b
  unfold garmentref48_Lost.f
  simp only [rlim_eq, Option.bind_some]
  have := rlost_l0 l hl m (lim b) hb.2 (lim b - lim a).toNat 0 (lim a) (Nat.le_refl _) (by omega) ha.1 ha.1 ha.2
  rwa [Int.zero_add] at this

/-! ### the program's Finish -/
theorem fin_l0 (p : Int → Bool) (B : Int) (hB : B ≤ 1073741824) (hp : ∀ t, B ≤ t → p t = false) (s : List S36) (hs : s.length ≤ 1000) (n : Nat) : ∀ (i : Nat) (w a : Int), i + n = s.length → 0 ≤ w → w ≤ 1073741824 → 0 ≤ a → Asc a (s.drop i) → endOf a (s.drop i) ≤ B → (∀ t, a ≤ t → t < B → cov (s.drop i) t = p t) →
    ∃ r, Ev (fun k => machine_Finish.l0 k w a s (s.length : Int) i) (r, 0) ∧ IsFin p a w r ∧ r ≤ B + w := by
  induction n with
  | zero =>
    intro i w a hi hw hw2 ha h1 h2 h3
    rw [List.drop_of_length_le (by omega)] at h1 h2 h3
    have haB : a ≤ B := h2
    have hup : ∀ t, a ≤ t → p t = false := fun t ht => by
      rcases Int.lt_or_le t B with c | c
      · rw [← h3 t ht c]; rfl
      · exact hp t c
    refine ⟨a + w, Ev.step (f := fun _ => some (a + w, 0)) (fun k => ?_) (Ev.now _), ⟨by omega, ?_, by omega, fun _ => hup _ (by omega)⟩, by omega⟩
    · simp only [machine_Finish.l0]
      rw [if_neg (nlt_cast (by omega)), w64 (by omega) (by omega)]
    · rw [lost_false (fun t t1 _ => hup t t1)]; omega
  | succ n ih =>
    intro i w a hi hw hw2 ha h1 h2 h3
    have hlt : i < s.length := by omega
    rw [drop_at hlt] at h1 h2 h3
    obtain ⟨g1, g2, g3⟩ := h1
    have h2' : endOf s[i].f2 (s.drop (i + 1)) ≤ B := h2
    have he := asc_end g3
    have hfree : ∀ t, a ≤ t → t < s[i].f1 → p t = false := fun t t1 t2 => by
      rw [← h3 t t1 (by omega), cov_cons, cov_before g3 (by omega)]
      have : ¬ s[i].f1 ≤ t := by omega
      simp [inI, this]
    have hdown : ∀ t, s[i].f1 ≤ t → t < s[i].f2 → p t = true := fun t t1 t2 => by
      rw [← h3 t (by omega) (by omega), cov_cons]
      simp [inI, t1, t2]
    by_cases hc : w ≤ s[i].f1 - a
    · refine ⟨a + w, Ev.step (f := fun _ => some (a + w, 0)) (fun k => ?_) (Ev.now _), ⟨by omega, ?_, by omega, fun _ => hfree _ (by omega) (by omega)⟩, by omega⟩
      · simp only [machine_Finish.l0]
        rw [if_pos (lt_cast hlt), if_pos (ge0 i), if_pos (lt_cast hlt), rd_at hlt, w64 (i := s[i].f1 - a) (by omega) (by omega), if_pos hc, w64 (by omega) (by omega)]
      · rw [lost_false (fun t t1 t2 => hfree t t1 (by omega))]; omega
    · obtain ⟨r, r1, ⟨q1, q2, q3, q4⟩, r3⟩ := ih (i + 1) (w - (s[i].f1 - a)) s[i].f2 (by omega) (by omega) (by omega) (by omega) g3 h2' (fun t t1 t2 => by
        rw [← h3 t (by omega) t2, cov_cons]
        have : ¬ t < s[i].f2 := by omega
        simp [inI, this])
      refine ⟨r, Ev.step (fun k => ?_) r1, ⟨by omega, ?_, by omega, fun _ => q4 (by omega)⟩, by omega⟩
      · simp only [machine_Finish.l0]
        rw [if_pos (lt_cast hlt), if_pos (ge0 i), if_pos (lt_cast hlt), rd_at hlt, w64 (i := s[i].f1 - a) (by omega) (by omega), if_neg hc, w64 (by omega) (by omega), w64s hs hlt]
      · rw [lost_split p (show a ≤ s[i].f1 by omega) (show s[i].f1 ≤ r by omega), lost_split p (show s[i].f1 ≤ s[i].f2 by omega) q1, lost_false hfree, lost_true (by omega) hdown]
        omega

theorem chk_len {l : List S36} (h : chk l = 0) : l.length ≤ 20 ∧ ∀ d ∈ l, okd d := by
  unfold chk at h
  split at h
  · omega
  · rename_i h1
    split at h
    · rename_i h2; exact ⟨by omega, h2⟩
    · omega
theorem dn_after {l : List S36} (h : ∀ d ∈ l, okd d) (m : Int) {t : Int} (ht : 1073741824 ≤ t) : dn l m t = false := by
  rw [Bool.eq_false_iff]
  intro hd
  obtain ⟨d, hd1, _, _, h2⟩ := (dn_iff _ _ _).1 hd
  have := h d hd1
  unfold okd at this
  omega

/-- may work of n times begin at s -/
def fits (s n : Int) : Prop := 0 ≤ s ∧ s ≤ 1073741824 ∧ 0 ≤ n ∧ n ≤ 1073741824
instance (s n : Int) : Decidable (fits s n) := by unfold fits; infer_instance
theorem lim_iff (t : Int) : t = lim t ↔ 0 ≤ t ∧ t ≤ 1073741824 := by unfold lim; omega

theorem fin_err (l : List S36) (m s n : Int) (h : chk l ≠ 0) : Ev (fun k => machine_Finish.f k l m s n) (0, chk l) := by
  unfold machine_Finish.f
  exact Ev.bind (check_ev l) (Ev.congr (f := fun _ => some (0, chk l)) (fun k => by rw [if_neg h]) (Ev.now _))
theorem fin_bad (l : List S36) (m s n : Int) (h : chk l = 0) (hf : ¬ fits s n) : Ev (fun k => machine_Finish.f k l m s n) (0, 3) := by
  unfold machine_Finish.f
  refine Ev.bind (check_ev l) ?_
  rw [h]
  have hj : Ev (fun k => machine_Finish.j0 k l m s n true) (0, 3) := Ev.step (f := fun _ => some (0, 3)) (fun k => by simp only [machine_Finish.j0]; rw [if_pos trivial]) (Ev.now _)
  refine Ev.congr (f := fun k => if s = lim s then machine_Finish.j0 k l m s n (n != lim n) else machine_Finish.j0 k l m s n true) (fun k => ?_) ?_
  · rw [if_pos rfl]
    simp only [lim_eq, Option.bind_some]
  · by_cases c : s = lim s
    · have c2 : (n != lim n) = true := by
        rw [bne_iff_ne]
        intro c2
        rw [lim_iff] at c c2
        exact hf ⟨c.1, c.2, c2.1, c2.2⟩
      exact Ev.congr (fun k => by rw [if_pos c, c2]) hj
    · exact Ev.congr (fun k => by rw [if_neg c]) hj
theorem fin_ev (l : List S36) (m s n : Int) (h : chk l = 0) (hf : fits s n) : ∃ r, Ev (fun k => machine_Finish.f k l m s n) (r, 0) ∧ IsFin (dn l m) s n r ∧ r ≤ 1073741824 + n := by
  obtain ⟨hlen, hok⟩ := chk_len h
  obtain ⟨f1, f2, f3, f4⟩ := hf
  obtain ⟨out, h1, h2, h3, h4, h5⟩ := stops_ev l (by omega) m s 1073741824 f1 f2 (Int.le_refl _)
  obtain ⟨r, r1, r2, r3⟩ := fin_l0 (dn l m) 1073741824 (Int.le_refl _) (fun t ht => dn_after hok m ht) out h2 out.length 0 n s (by omega) f3 f4 f1 (by simpa using h3) (by simpa using h4) (by simpa using h5)
  refine ⟨r, ?_, r2, r3⟩
  unfold machine_Finish.f
  refine Ev.bind (check_ev l) ?_
  rw [h]
  refine Ev.congr (f := fun k => machine_Finish.j0 k l m s n false) (fun k => ?_) (Ev.step (fun k => by simp only [machine_Finish.j0]; rw [if_neg (by simp)]) (Ev.bind h1 r1))
  rw [if_pos rfl]
  simp only [lim_eq, Option.bind_some]
  rw [if_pos ((lim_iff s).2 ⟨f1, f2⟩), show (n != lim n) = false by rw [bne_eq_false_iff_eq]; exact (lim_iff n).2 ⟨f3, f4⟩]

/-! ### the reference's Finish -/
theorem rfin_l0 (l : List S36) (hl : l.length ≤ 1000) (hok : ∀ d ∈ l, okd d) (m : Int) (q : Nat) : ∀ (w t : Int), (2147483648 - t).toNat ≤ q → 0 ≤ w → 0 ≤ t → t + w ≤ 2147483648 → w ≤ 1073741824 → ∃ r, Ev (fun k => garmentref48_Finish.l0 k l m w t) (r, 0) ∧ IsFin (dn l m) t w r := by
  induction q with
  | zero =>
    intro w t h1 h2 h3 h4 h5
    have hw : w = 0 := by omega
    subst hw
    exact ⟨t, Ev.step (f := fun _ => some (t, 0)) (fun k => by simp only [garmentref48_Finish.l0]; rw [if_neg (by omega)]) (Ev.now _), Int.le_refl _, by rw [lost_none _ (Int.le_refl _)]; omega, fun _ => rfl, fun h => by omega⟩
  | succ q ih =>
    intro w t h1 h2 h3 h4 h5
    by_cases hw : w > 0
    · have hlt : t < t + w := by omega
      obtain ⟨g1, g2, _⟩ := nxt_spec l m t (t + w) hlt
      have hs := nxt_same l m t (t + w) hlt
      have hn := next_ev l hl m t (t + w)
      generalize nxt l m t (t + w) = z at g1 g2 hs hn
      cases hd : dn l m t with
      | false =>
        rw [hd] at hs
        obtain ⟨r, r1, q1, q2, q3, q4⟩ := ih (w - (z - t)) z (by omega) (by omega) (by omega) (by omega) (by omega)
        refine ⟨r, Ev.step (fun k => by simp only [garmentref48_Finish.l0]; rw [if_pos hw, w64 (i := t + w) (by omega) (by omega)]) (Ev.bind hn (Ev.bind (rup_ev l hl m t) ?_)), by omega, ?_, by omega, fun _ => ?_⟩
        · refine Ev.congr (fun k => ?_) r1
          rw [if_pos (by rw [hd]; rfl), w64 (i := z - t) (by omega) (by omega), w64 (by omega) (by omega)]
        · rw [lost_split _ (show t ≤ z by omega) q1, lost_false hs]; omega
        · by_cases hz : 0 < w - (z - t)
          · exact q4 hz
          · have := q3 (by omega)
            subst this
            exact hs _ (by omega) (by omega)
      | true =>
        obtain ⟨d, hd1, hdm, hd2, hd3⟩ := (dn_iff _ _ _).1 hd
        have hdok := hok d hd1
        unfold okd at hdok
        have hlt2 : t < 2147483648 := by omega
        obtain ⟨k1, k2, k3⟩ := nxt_spec l m t 2147483648 hlt2
        have ks := nxt_same l m t 2147483648 hlt2
        have kn := next_ev l hl m t 2147483648
        have k4 := (k3 d hd1 hdm).2 hd3
        generalize nxt l m t 2147483648 = y at k1 k2 k3 ks kn k4
        rw [hd] at ks
        obtain ⟨r, r1, q1, q2, q3, q4⟩ := ih w y (by omega) h2 (by omega) (by omega) h5
        refine ⟨r, Ev.step (fun k => by simp only [garmentref48_Finish.l0]; rw [if_pos hw, w64 (i := t + w) (by omega) (by omega)]) (Ev.bind hn (Ev.bind (rup_ev l hl m t) ?_)), by omega, ?_, by omega, fun _ => q4 (by omega)⟩
        · refine Ev.congr (fun k => ?_) (Ev.bind kn r1)
          rw [if_neg (by rw [hd]; simp)]
        · rw [lost_split _ (show t ≤ y by omega) q1, lost_true (by omega) ks]; omega
    · have hw0 : w = 0 := by omega
      subst hw0
      exact ⟨t, Ev.step (f := fun _ => some (t, 0)) (fun k => by simp only [garmentref48_Finish.l0]; rw [if_neg (by omega)]) (Ev.now _), Int.le_refl _, by rw [lost_none _ (Int.le_refl _)]; omega, fun _ => rfl, fun h => by omega⟩

theorem rfin_err (l : List S36) (m s n : Int) (h : chk l ≠ 0) : Ev (fun k => garmentref48_Finish.f k l m s n) (0, chk l) := by
  unfold garmentref48_Finish.f
  exact Ev.bind (rcheck_ev l) (Ev.congr (f := fun _ => some (0, chk l)) (fun k => by rw [if_neg h]) (Ev.now _))
theorem rfin_bad (l : List S36) (m s n : Int) (h : chk l = 0) (hf : ¬ fits s n) : Ev (fun k => garmentref48_Finish.f k l m s n) (0, 3) := by
  unfold garmentref48_Finish.f
  refine Ev.bind (rcheck_ev l) ?_
  rw [h]
  have hj : Ev (fun k => garmentref48_Finish.j0 k l m s n true) (0, 3) := Ev.step (f := fun _ => some (0, 3)) (fun k => by simp only [garmentref48_Finish.j0]; rw [if_pos trivial]) (Ev.now _)
  refine Ev.congr (fun k => ?_) hj
  rw [if_pos rfl]
  unfold fits at hf
  by_cases c1 : s < 0
  · rw [if_pos c1]
  · by_cases c2 : s > 1073741824
    · rw [if_neg c1, if_pos c2]
    · by_cases c3 : n < 0
      · rw [if_neg c1, if_neg c2, if_pos c3]
      · rw [if_neg c1, if_neg c2, if_neg c3, decide_eq_true (show n > 1073741824 by omega)]
theorem rfin_ev (l : List S36) (m s n : Int) (h : chk l = 0) (hf : fits s n) : ∃ r, Ev (fun k => garmentref48_Finish.f k l m s n) (r, 0) ∧ IsFin (dn l m) s n r := by
  obtain ⟨hlen, hok⟩ := chk_len h
  obtain ⟨f1, f2, f3, f4⟩ := hf
  obtain ⟨r, r1, r2⟩ := rfin_l0 l (by omega) hok m (2147483648 - s).toNat n s (Nat.le_refl _) f3 f1 (by omega) f4
  refine ⟨r, ?_, r2⟩
  unfold garmentref48_Finish.f
  refine Ev.bind (rcheck_ev l) ?_
  rw [h]
  refine Ev.congr (f := fun k => garmentref48_Finish.j0 k l m s n false) (fun k => ?_) (Ev.step (fun k => by simp only [garmentref48_Finish.j0]; rw [if_neg (by simp)]) r1)
  rw [if_pos rfl, if_neg (by omega), if_neg (by omega), if_neg (by omega), decide_eq_false (by omega)]
end Go.Proofs.Ytlglnbcglafjnaa.Z
