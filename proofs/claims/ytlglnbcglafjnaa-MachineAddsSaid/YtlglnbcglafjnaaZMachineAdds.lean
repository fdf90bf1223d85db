/- The law MachineAdds: what is lost adds up over adjacent spans; work that is done in two parts is done as without the division. -/
import Derived.Test.YtlglnbcglafjnaaZMachineExact
import Derived.Test.YtlglnbcglafjnaaMqMachineAdds
namespace Go.Proofs.Ytlglnbcglafjnaa.Z
open Go Go.RowKit Go.Proofs.Ytlglnbcglafjnaa.M Go.Proofs.YtlglnbcglafjnaaW.PrintWords
theorem lost_lim_split (p : Int → Bool) {a b c : Int} (h1 : a ≤ b) (h2 : b ≤ c) : lost p (lim a) (lim c) = lost p (lim a) (lim b) + lost p (lim b) (lim c) :=
  lost_split p (by unfold lim; omega) (by unfold lim; omega)
theorem fin_split (p : Int → Bool) {s n n' a b c : Int} (h : IsFin p s n a) (h' : IsFin p a n' b) (h2 : IsFin p s (n + n') c) (hn : 0 ≤ n) (hn' : 0 ≤ n') : b = c := by
  refine fin_unique p (n := n + n') (s := s) ?_ h2
  obtain ⟨a1, a2, a3, a4⟩ := h
  obtain ⟨b1, b2, b3, b4⟩ := h'
  refine ⟨by omega, ?_, fun h0 => ?_, fun h0 => ?_⟩
  · rw [lost_split p a1 b1]; omega
  · have := a3 (by omega); have := b3 (by omega); omega
  · by_cases hz : 0 < n'
    · exact b4 hz
    · have e := b3 (by omega)
      subst e
      exact a4 (by omega)
theorem MachineAdds : MachineAdds.Pure := by
  intro l m a b c x y _ _ _ _ _
  refine Ev.rounds ?_
  unfold garmentlaw48_MachineAdds.f
  have hj : Ev (fun k => garmentlaw48_MachineAdds.j0 k l m x y true a b c) true := Ev.step (fun k => by simp only [garmentlaw48_MachineAdds.j0]; rw [if_pos trivial]) awake_then
  have hj1 : Ev (fun k => garmentlaw48_MachineAdds.j1 k l m x y true a b c) true := Ev.step (fun k => by simp only [garmentlaw48_MachineAdds.j1]; rw [if_pos trivial]) awake_then
  have hj2 : ∀ z, Ev (fun k => garmentlaw48_MachineAdds.j2 k l m x y z true a b c) true := fun z => Ev.step (fun k => by simp only [garmentlaw48_MachineAdds.j2]; rw [if_pos trivial]) awake_then
  by_cases h : (l.length : Int) > 20
  · exact Ev.congr (fun k => by rw [if_pos h]) hj
  · by_cases h1 : a > b
    · exact Ev.congr (fun k => by rw [if_neg h, if_pos h1]) hj
    · by_cases h2 : b > c
      · exact Ev.congr (fun k => by rw [if_neg h, if_neg h1, decide_eq_true h2]) hj
      · refine Ev.congr (fun k => by rw [if_neg h, if_neg h1, decide_eq_false h2]) ?_
        refine Ev.step (fun k => by simp only [garmentlaw48_MachineAdds.j0]; rw [if_neg (by simp)]) ?_
        refine Ev.bind (lost_ev l (by omega) m a c) ?_
        refine Ev.bind (lost_ev l (by omega) m a b) ?_
        refine Ev.bind (lost_ev l (by omega) m b c) ?_
        have hs := lost_lim_split (dn l m) (show a ≤ b by omega) (show b ≤ c by omega)
        have ha := lim_bd a
        have hb := lim_bd b
        have hc := lim_bd c
        have hab : lim a ≤ lim b := by unfold lim; omega
        have hbc : lim b ≤ lim c := by unfold lim; omega
        have l1 := lost_bd (dn l m) hab
        have l2 := lost_bd (dn l m) hbc
        refine Ev.congr (fun k => by rw [w64 (by omega) (by omega), if_pos hs]) ?_
        by_cases c1 : x < 0
        · exact Ev.congr (fun k => by rw [if_pos c1]) hj1
        · by_cases c2 : x > 1073741824
          · exact Ev.congr (fun k => by rw [if_neg c1, if_pos c2]) hj1
          · by_cases c3 : y < 0
            · exact Ev.congr (fun k => by rw [if_neg c1, if_neg c2, if_pos c3]) hj1
            · by_cases c4 : y > 1073741824 - x
              · exact Ev.congr (fun k => by rw [if_neg c1, if_neg c2, if_neg c3, w64 (by omega) (by omega), decide_eq_true c4]) hj1
              · refine Ev.congr (fun k => by rw [if_neg c1, if_neg c2, if_neg c3, w64 (by omega) (by omega), decide_eq_false c4]) ?_
                refine Ev.step (fun k => by simp only [garmentlaw48_MachineAdds.j1]; rw [if_neg (by simp)]) ?_
                by_cases hk : chk l = 0
                · by_cases hf : fits a x
                  · obtain ⟨r, r1, r2, r3⟩ := fin_ev l m a x hk hf
                    refine Ev.bind r1 ?_
                    refine Ev.congr (fun k => by rw [if_pos rfl]) ?_
                    have hfa := hf
                    unfold fits at hfa
                    by_cases c5 : r > 1073741824
                    · exact Ev.congr (fun k => by simp only; rw [decide_eq_true c5]) (hj2 r)
                    · refine Ev.congr (f := fun k => garmentlaw48_MachineAdds.j2 k l m x y r false a b c) (fun k => by simp only; rw [decide_eq_false c5]) ?_
                      refine Ev.step (fun k => by simp only [garmentlaw48_MachineAdds.j2]; rw [if_neg (by simp), w64 (i := x + y) (by omega) (by omega)]) ?_
                      have hr := r2.1
                      obtain ⟨s, s1, s2, _⟩ := fin_ev l m r y hk ⟨by omega, by omega, by omega, by omega⟩
                      obtain ⟨t, t1, t2, _⟩ := fin_ev l m a (x + y) hk ⟨by omega, by omega, by omega, by omega⟩
                      have e := fin_split _ r2 s2 t2 (by omega) (by omega)
                      subst e
                      refine Ev.bind s1 ?_
                      refine Ev.bind t1 ?_
                      exact Ev.congr (fun k => by rw [if_pos rfl, if_pos rfl, if_pos rfl]) awake_then
                  · refine Ev.bind (fin_bad l m a x hk hf) ?_
                    exact Ev.congr (fun k => by rw [if_neg (by decide)]) (hj2 0)
                · refine Ev.bind (fin_err l m a x hk) ?_
                  exact Ev.congr (fun k => by rw [if_neg hk]) (hj2 0)
end Go.Proofs.Ytlglnbcglafjnaa.Z
