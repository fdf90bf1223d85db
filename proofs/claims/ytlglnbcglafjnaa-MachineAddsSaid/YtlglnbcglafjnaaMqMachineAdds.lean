/- The pure statement of the law MachineAdds. -/
import Derived.Test.YtlglnbcglafjnaaMq
import Derived.Test.YtlglnbcglafjnaaMx9
namespace Go.Proofs.Ytlglnbcglafjnaa.M
open Go Go.RowKit Go.Proofs.YtlglnbcglafjnaaW.PrintWords Go.Proofs.YtlglnbcglafjnaaW.PrintLast Go.Proofs.YtlglnbcglafjnaaW.PrintMore
set_option linter.unusedVariables false
set_option linter.unusedSimpArgs false
def MachineAdds.Pure : Prop := ∀ (l0 : List (S36)) (a1 : Int) (a2_0 : Int) (a2_1 : Int) (a2_2 : Int) (a3 : Int) (a4 : Int), (l0.length ≤ maxLen ∧ ∀ y0_ ∈ l0, Q36 y0_) → (Lit.int .i64 a1).wf = true → Q32 (⟨a2_0, a2_1, a2_2⟩ : S32) → (Lit.int .i64 a3).wf = true → (Lit.int .i64 a4).wf = true → ∃ k, garmentlaw48_MachineAdds.f k l0 a1 a2_0 a2_1 a2_2 a3 a4 = some true

end Go.Proofs.Ytlglnbcglafjnaa.M
