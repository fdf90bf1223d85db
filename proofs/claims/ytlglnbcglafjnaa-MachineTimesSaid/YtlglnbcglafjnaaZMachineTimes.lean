/- The law MachineTimes: whether a machine is up, and how much time is lost: the program and the reference tell the same. -/
import Derived.Test.YtlglnbcglafjnaaZFin
import Derived.Test.YtlglnbcglafjnaaMqMachineTimes
namespace Go.Proofs.Ytlglnbcglafjnaa.Z
open Go Go.RowKit Go.Proofs.Ytlglnbcglafjnaa.M Go.Proofs.YtlglnbcglafjnaaW.PrintWords
theorem MachineTimes : MachineTimes.Pure := by
  intro l m a b _ _ _ _
  refine Ev.rounds ?_
  unfold garmentlaw48_MachineTimes.f
  by_cases h : (l.length : Int) > 30
  · exact Ev.congr (fun k => by rw [if_pos h]) awake_then
  · refine Ev.congr (f := fun k => (garmentref48_Up.f k l m a).bind fun t184 => if ((!dn l m a) == t184) = true then (machine_Lost.f k l m a b).bind fun t185 => (garmentref48_Lost.f k l m a b).bind fun t186 => if t185 = t186 then (garmentlaw48_awake.f k).bind fun t187 => some t187 else some false else some false) (fun k => by rw [if_neg h, up_f]; rfl) ?_
    refine Ev.bind (rup_ev l (by omega) m a) ?_
    refine Ev.congr (fun k => by rw [if_pos (by simp)]) ?_
    refine Ev.bind (lost_ev l (by omega) m a b) ?_
    refine Ev.bind (rlost_ev l (by omega) m a b) ?_
    exact Ev.congr (fun k => by rw [if_pos rfl]) awake_then
end Go.Proofs.Ytlglnbcglafjnaa.Z
