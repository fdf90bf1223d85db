/- The pure statement of the law ConvexOrder. -/
import Derived.Test.YtlnigbhimdphoaaCq
import Derived.Test.YtlnigbhimdphoaaCx23
namespace Go.Proofs.Ytlnigbhimdphoaa.C
open Go Go.RowKit Go.Proofs.YtlnigbhimdphoaaW.PrintWords Go.Proofs.YtlnigbhimdphoaaW.PrintLast Go.Proofs.YtlnigbhimdphoaaW.PrintMore
set_option linter.unusedVariables false
set_option linter.unusedSimpArgs false
def ConvexOrder.Pure : Prop := ∀ (l0 : List (S30)) (a1 : Int), (l0.length ≤ maxLen ∧ ∀ y0_ ∈ l0, Q30 y0_) → (Lit.int .u8 a1).wf = true → ∃ k, garmentlaw14_ConvexOrder.f k l0 a1 = some true

end Go.Proofs.Ytlnigbhimdphoaa.C
