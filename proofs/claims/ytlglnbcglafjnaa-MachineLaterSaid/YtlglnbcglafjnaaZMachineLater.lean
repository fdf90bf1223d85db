/- The law MachineLater: work that begins later, takes longer, or meets a further stop is not done earlier. -/
import Derived.Test.YtlglnbcglafjnaaZFin
import Derived.Test.YtlglnbcglafjnaaMqMachineLater
namespace Go.Proofs.Ytlglnbcglafjnaa.Z
open Go Go.RowKit Go.Proofs.Ytlglnbcglafjnaa.M Go.Proofs.YtlglnbcglafjnaaW.PrintWords
/-- a later beginning is not done earlier -/
theorem fin_later (p : Int → Bool) {s n r r' : Int} (h : IsFin p s n r) (h' : IsFin p (s + 1) n r') : r ≤ r' := by
  obtain ⟨h1, h2, h3, h4⟩ := h
  obtain ⟨k1, k2, k3, k4⟩ := h'
  rcases Int.lt_or_le r' r with hlt | hle
  · exfalso
    have hpos : 0 < n := by
      rcases Int.lt_or_le 0 n with h0 | h0
      · exact h0
      · have := up_mono p (Int.le_refl s) h1
        rw [lost_none p (Int.le_refl s)] at this
        have := h3 (by omega)
        omega
    have := h4 hpos
    have hl := lost_last p (show s < r by omega)
    rw [this] at hl
    have := up_mono p (show s ≤ r' by omega) (show r' ≤ r - 1 by omega)
    have hf := lost_first p (show s < r' by omega)
    simp at hl
    split at hf <;> omega
  · exact hle
theorem fin_longer (p : Int → Bool) {s n r r' : Int} (h : IsFin p s n r) (h' : IsFin p s (n + 1) r') : r < r' := by
  have hle := fin_le p h h' (by omega)
  rcases Int.lt_or_le r r' with hlt | hge
  · exact hlt
  · have : r = r' := by omega
    subst this
    have := h.2.1
    have := h'.2.1
    omega
/-- with more stops the work is not done earlier -/
theorem fin_more (p q : Int → Bool) (hpq : ∀ t, p t = true → q t = true) {s n r r' : Int} (h : IsFin p s n r) (h' : IsFin q s n r') : r ≤ r' := by
  have hmono : ∀ a b : Int, a ≤ b → lost p a b ≤ lost q a b := by
    intro a b hab
    unfold lost
    generalize (b - a).toNat = k
    induction k with
    | zero => exact Int.le_refl _
    | succ k ih =>
      show cnt p a k + _ ≤ cnt q a k + _
      have := hpq (a + k)
      by_cases hp : p (a + k) = true
      · rw [if_pos hp, if_pos (this hp)]; omega
      · rw [if_neg hp]; split <;> omega
  obtain ⟨h1, h2, h3, h4⟩ := h
  obtain ⟨k1, k2, k3, k4⟩ := h'
  rcases Int.lt_or_le r' r with hlt | hle
  · exfalso
    have hpos : 0 < n := by
      rcases Int.lt_or_le 0 n with h0 | h0
      · exact h0
      · have := up_mono p (Int.le_refl s) h1
        rw [lost_none p (Int.le_refl s)] at this
        have := h3 (by omega)
        omega
    have := h4 hpos
    have hl := lost_last p (show s < r by omega)
    rw [this] at hl
    have h5 := up_mono p k1 (show r' ≤ r - 1 by omega)
    have := hmono s r' k1
    simp at hl
    omega
  · exact hle
theorem dn_more (d : S36) (l : List S36) (m t : Int) (h : dn l m t = true) : dn ([d] ++ l) m t = true := by
  show dn (d :: l) m t = true
  rw [dn_cons, h, Bool.or_true]
theorem MachineLater : MachineLater.Pure := by
  intro l m s n d0 d1 d2 _ _ _ _ _
  refine Ev.rounds ?_
  unfold garmentlaw48_MachineLater.f
  have hj : Ev (fun k => garmentlaw48_MachineLater.j0 k l m s n true d0 d1 d2) true := Ev.step (fun k => by simp only [garmentlaw48_MachineLater.j0]; rw [if_pos trivial]) awake_then
  by_cases h : (l.length : Int) > 19
  · exact Ev.congr (fun k => by rw [if_pos h]) hj
  · refine Ev.congr (f := fun k => (machine_Check.f k ([(⟨d0, d1, d2⟩ : S36)] ++ l)).bind fun t250 => if t250 = 0 then if s < 0 then garmentlaw48_MachineLater.j0 k l m s n true d0 d1 d2 else if s ≥ 1073741824 then garmentlaw48_MachineLater.j0 k l m s n true d0 d1 d2 else if n < 0 then garmentlaw48_MachineLater.j0 k l m s n true d0 d1 d2 else garmentlaw48_MachineLater.j0 k l m s n (decide (n ≥ 1073741824)) d0 d1 d2 else garmentlaw48_MachineLater.j0 k l m s n true d0 d1 d2) (fun k => by rw [if_neg h]; simp only [Option.bind_some]; rw [if_pos (by simp; omega)]) ?_
    refine Ev.bind (check_ev _) ?_
    by_cases hc : chk ([(⟨d0, d1, d2⟩ : S36)] ++ l) = 0
    · by_cases h1 : s < 0
      · exact Ev.congr (fun k => by rw [if_pos hc, if_pos h1]) hj
      · by_cases h2 : s ≥ 1073741824
        · exact Ev.congr (fun k => by rw [if_pos hc, if_neg h1, if_pos h2]) hj
        · by_cases h3 : n < 0
          · exact Ev.congr (fun k => by rw [if_pos hc, if_neg h1, if_neg h2, if_pos h3]) hj
          · by_cases h4 : n ≥ 1073741824
            · exact Ev.congr (fun k => by rw [if_pos hc, if_neg h1, if_neg h2, if_neg h3, decide_eq_true h4]) hj
            · refine Ev.congr (fun k => by rw [if_pos hc, if_neg h1, if_neg h2, if_neg h3, decide_eq_false h4]) ?_
              obtain ⟨hlen, hok⟩ := chk_len hc
              have hc0 : chk l = 0 := by
                unfold chk
                rw [if_neg (by simp at hlen; omega), if_pos (fun d hd => hok d (by simp [hd]))]
              obtain ⟨a, a1, a2, a3⟩ := fin_ev l m s n hc0 ⟨by omega, by omega, by omega, by omega⟩
              obtain ⟨b, b1, b2, b3⟩ := fin_ev l m (s + 1) n hc0 ⟨by omega, by omega, by omega, by omega⟩
              obtain ⟨c, c1, c2, c3⟩ := fin_ev l m s (n + 1) hc0 ⟨by omega, by omega, by omega, by omega⟩
              obtain ⟨x, x1, x2, x3⟩ := fin_ev ([(⟨d0, d1, d2⟩ : S36)] ++ l) m s n hc ⟨by omega, by omega, by omega, by omega⟩
              have l1 := fin_later _ a2 b2
              have l2 := fin_longer _ a2 c2
              have l3 := fin_more _ _ (fun t => dn_more ⟨d0, d1, d2⟩ l m t) a2 x2
              refine Ev.step (fun k => by simp only [garmentlaw48_MachineLater.j0]; rw [if_neg (by simp), w64 (i := s + 1) (by omega) (by omega), w64 (i := n + 1) (by omega) (by omega)]) ?_
              refine Ev.bind a1 ?_
              refine Ev.bind b1 ?_
              refine Ev.bind c1 ?_
              refine Ev.congr (fun k => by simp only [Option.bind_some]; rw [if_pos (by simp; omega)]) ?_
              refine Ev.bind x1 ?_
              exact Ev.congr (fun k => by simp only [if_true]; rw [if_pos l1, if_pos l2, if_pos l3]) awake_then
    · exact Ev.congr (fun k => by rw [if_neg hc]) hj
end Go.Proofs.Ytlglnbcglafjnaa.Z
