/- The pure statement of the law MachineChecks. -/
import Derived.Test.YtlglnbcglafjnaaMq
import Derived.Test.YtlglnbcglafjnaaMx5
namespace Go.Proofs.Ytlglnbcglafjnaa.M
open Go Go.RowKit Go.Proofs.YtlglnbcglafjnaaW.PrintWords Go.Proofs.YtlglnbcglafjnaaW.PrintLast Go.Proofs.YtlglnbcglafjnaaW.PrintMore
set_option linter.unusedVariables false
set_option linter.unusedSimpArgs false
def MachineChecks.Pure : Prop := ∀ (l0 : List (S36)), (l0.length ≤ maxLen ∧ ∀ y0_ ∈ l0, Q36 y0_) → ∃ k, garmentlaw48_MachineChecks.f k l0 = some true

end Go.Proofs.Ytlglnbcglafjnaa.M
