/- The law MachineChecks: the program's and the reference's first error are one. -/
import Derived.Test.YtlglnbcglafjnaaZFin
import Derived.Test.YtlglnbcglafjnaaMqMachineChecks
namespace Go.Proofs.Ytlglnbcglafjnaa.Z
open Go Go.RowKit Go.Proofs.Ytlglnbcglafjnaa.M Go.Proofs.YtlglnbcglafjnaaW.PrintWords
theorem MachineChecks : MachineChecks.Pure := by
  intro l _
  refine Ev.rounds ?_
  unfold garmentlaw48_MachineChecks.f
  by_cases h : (l.length : Int) > 30
  · exact Ev.congr (fun k => by rw [if_pos h]) awake_then
  · refine Ev.congr (fun k => by rw [if_neg h]) ?_
    refine Ev.bind (check_ev l) ?_
    refine Ev.bind (rcheck_ev l) ?_
    exact Ev.congr (fun k => by rw [if_pos rfl]) awake_then
end Go.Proofs.Ytlglnbcglafjnaa.Z
