/- The law MachineFinishes: the end of work, or the error: the program and the reference tell the same. -/
import Derived.Test.YtlglnbcglafjnaaZFin
import Derived.Test.YtlglnbcglafjnaaMqMachineFinishes
namespace Go.Proofs.Ytlglnbcglafjnaa.Z
open Go Go.RowKit Go.Proofs.Ytlglnbcglafjnaa.M Go.Proofs.YtlglnbcglafjnaaW.PrintWords
theorem MachineFinishes : MachineFinishes.Pure := by
  intro l m s n _ _ _ _
  refine Ev.rounds ?_
  unfold garmentlaw48_MachineFinishes.f
  by_cases h : (l.length : Int) > 30
  · exact Ev.congr (fun k => by rw [if_pos h]) awake_then
  · refine Ev.congr (fun k => by rw [if_neg h]) ?_
    have same : ∃ r, Ev (fun k => machine_Finish.f k l m s n) r ∧ Ev (fun k => garmentref48_Finish.f k l m s n) r := by
      by_cases hc : chk l = 0
      · by_cases hf : fits s n
        · obtain ⟨r, r1, r2, _⟩ := fin_ev l m s n hc hf
          obtain ⟨q, q1, q2⟩ := rfin_ev l m s n hc hf
          exact ⟨_, r1, by rw [fin_unique _ r2 q2]; exact q1⟩
        · exact ⟨_, fin_bad l m s n hc hf, rfin_bad l m s n hc hf⟩
      · exact ⟨_, fin_err l m s n hc, rfin_err l m s n hc⟩
    obtain ⟨r, r1, r2⟩ := same
    refine Ev.bind r1 ?_
    refine Ev.bind r2 ?_
    exact Ev.congr (fun k => by rw [if_pos rfl, if_pos rfl]) awake_then
end Go.Proofs.Ytlglnbcglafjnaa.Z
