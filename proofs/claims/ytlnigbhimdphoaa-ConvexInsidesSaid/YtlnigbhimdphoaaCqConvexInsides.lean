/- The pure statement of the law ConvexInsides. -/
import Derived.Test.YtlnigbhimdphoaaCq
import Derived.Test.YtlnigbhimdphoaaCx18
namespace Go.Proofs.Ytlnigbhimdphoaa.C
open Go Go.RowKit Go.Proofs.YtlnigbhimdphoaaW.PrintWords Go.Proofs.YtlnigbhimdphoaaW.PrintLast Go.Proofs.YtlnigbhimdphoaaW.PrintMore
set_option linter.unusedVariables false
set_option linter.unusedSimpArgs false
def ConvexInsides.Pure : Prop := ∀ (l0 : List (S30)) (a1_0 : Int) (a1_1 : Int), (l0.length ≤ maxLen ∧ ∀ y0_ ∈ l0, Q30 y0_) → Q30 (⟨a1_0, a1_1⟩ : S30) → ∃ k, garmentlaw14_ConvexInsides.f k l0 a1_0 a1_1 = some true

end Go.Proofs.Ytlnigbhimdphoaa.C
