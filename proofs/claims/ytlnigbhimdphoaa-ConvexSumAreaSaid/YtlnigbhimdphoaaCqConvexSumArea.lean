/- The pure statement of the law ConvexSumArea. -/
import Derived.Test.YtlnigbhimdphoaaCq
import Derived.Test.YtlnigbhimdphoaaCx26
namespace Go.Proofs.Ytlnigbhimdphoaa.C
open Go Go.RowKit Go.Proofs.YtlnigbhimdphoaaW.PrintWords Go.Proofs.YtlnigbhimdphoaaW.PrintLast Go.Proofs.YtlnigbhimdphoaaW.PrintMore
set_option linter.unusedVariables false
set_option linter.unusedSimpArgs false
def ConvexSumArea.Pure : Prop := ∀ (l0 : List (S30)) (l1 : List (S30)), (l0.length ≤ maxLen ∧ ∀ y0_ ∈ l0, Q30 y0_) → (l1.length ≤ maxLen ∧ ∀ y0_ ∈ l1, Q30 y0_) → ∃ k, garmentlaw14_ConvexSumArea.f k l0 l1 = some true

end Go.Proofs.Ytlnigbhimdphoaa.C
