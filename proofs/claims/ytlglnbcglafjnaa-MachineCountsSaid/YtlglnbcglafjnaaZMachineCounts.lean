/- The law MachineCounts: lost time is the number of the times at which the machine is not up. -/
import Derived.Test.YtlglnbcglafjnaaZFin
import Derived.Test.YtlglnbcglafjnaaMqMachineCounts
namespace Go.Proofs.Ytlglnbcglafjnaa.Z
open Go Go.RowKit Go.Proofs.Ytlglnbcglafjnaa.M Go.Proofs.YtlglnbcglafjnaaW.PrintWords
theorem counts_l0 (l : List S36) (hl : l.length ≤ 20) (m s n : Int) (hs : 0 ≤ s) (hs2 : s ≤ 1073741524) (hn : 0 ≤ n) (hn2 : n ≤ 200) (q : Nat) : ∀ (t : Int), s ≤ t → t ≤ s + n → (s + n - t).toNat = q → Ev (fun k => garmentlaw48_MachineCounts.l0 k l m s n (lost (dn l m) s t) t) true := by
  have e1 : wrap64 (s + wrap64 n) = s + n := by rw [w64 (i := n) (by omega) (by omega), w64 (by omega) (by omega)]
  induction q with
  | zero =>
    intro t h1 h2 h3
    have e : t = s + n := by omega
    subst e
    refine Ev.step (fun k => by simp only [garmentlaw48_MachineCounts.l0]; rw [e1, if_neg (by omega)]) ?_
    have hlo := lost_ev l (by omega) m s (s + n)
    rw [((lim_iff s).2 ⟨hs, by omega⟩).symm, ((lim_iff (s + n)).2 ⟨by omega, by omega⟩).symm] at hlo
    refine Ev.bind hlo ?_
    exact Ev.congr (fun k => by rw [if_pos rfl]) awake_then
  | succ q ih =>
    intro t h1 h2 h3
    have hb := lost_bd (dn l m) h1
    have hn1 := ih (t + 1) (by omega) (by omega) (by omega)
    have hlast := lost_last (dn l m) (show s < t + 1 by omega)
    rw [show t + 1 - 1 = t by omega] at hlast
    refine Ev.step (fun k => ?_) hn1
    simp only [garmentlaw48_MachineCounts.l0]
    rw [e1, if_pos (by omega), up_f]
    simp only [Option.bind_some]
    rw [w64 (i := t + 1) (by omega) (by omega)]
    cases hd : dn l m t with
    | false =>
      rw [if_pos (by simp), hlast, hd]
      simp
    | true =>
      rw [if_neg (by simp), w64 (by omega) (by omega), hlast, hd]
      simp
theorem MachineCounts : MachineCounts.Pure := by
  intro l m s n _ _ _ hn
  have hn' : 0 ≤ n ∧ n ≤ 255 := by
    have e1 : IntKind.u8.min = 0 := by decide
    have e2 : IntKind.u8.max = 255 := by decide
    unfold Lit.wf at hn
    rw [Bool.and_eq_true, decide_eq_true_eq, decide_eq_true_eq, e1, e2] at hn
    exact hn
  refine Ev.rounds ?_
  unfold garmentlaw48_MachineCounts.f
  have hj : Ev (fun k => garmentlaw48_MachineCounts.j0 k l m s n true) true := Ev.step (fun k => by simp only [garmentlaw48_MachineCounts.j0]; rw [if_pos trivial]) awake_then
  by_cases h : (l.length : Int) > 20
  · exact Ev.congr (fun k => by rw [if_pos h]) hj
  · by_cases h1 : s < 0
    · exact Ev.congr (fun k => by rw [if_neg h, if_pos h1]) hj
    · by_cases h2 : s > 1073741524
      · exact Ev.congr (fun k => by rw [if_neg h, if_neg h1, if_pos h2]) hj
      · by_cases h3 : n > 200
        · exact Ev.congr (fun k => by rw [if_neg h, if_neg h1, if_neg h2, decide_eq_true h3]) hj
        · refine Ev.congr (fun k => by rw [if_neg h, if_neg h1, if_neg h2, decide_eq_false h3]) (Ev.step (fun k => by simp only [garmentlaw48_MachineCounts.j0]; rw [if_neg (by simp)]) ?_)
          have := counts_l0 l (by omega) m s n (by omega) (by omega) hn'.1 (by omega) n.toNat s (Int.le_refl _) (by omega) (by omega)
          rw [lost_none _ (Int.le_refl _)] at this
          exact this
end Go.Proofs.Ytlglnbcglafjnaa.Z
