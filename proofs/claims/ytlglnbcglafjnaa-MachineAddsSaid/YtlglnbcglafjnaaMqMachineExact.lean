/- The pure statement of the law MachineExact. -/
import Derived.Test.YtlglnbcglafjnaaMq
import Derived.Test.YtlglnbcglafjnaaMx10
namespace Go.Proofs.Ytlglnbcglafjnaa.M
open Go Go.RowKit Go.Proofs.YtlglnbcglafjnaaW.PrintWords Go.Proofs.YtlglnbcglafjnaaW.PrintLast Go.Proofs.YtlglnbcglafjnaaW.PrintMore
set_option linter.unusedVariables false
set_option linter.unusedSimpArgs false
def MachineExact.Pure : Prop := ∀ (l0 : List (S36)) (a1 : Int) (a2 : Int) (a3 : Int), (l0.length ≤ maxLen ∧ ∀ y0_ ∈ l0, Q36 y0_) → (Lit.int .i64 a1).wf = true → (Lit.int .i64 a2).wf = true → (Lit.int .i64 a3).wf = true → ∃ k, garmentlaw48_MachineExact.f k l0 a1 a2 a3 = some true

end Go.Proofs.Ytlglnbcglafjnaa.M
