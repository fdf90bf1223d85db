/- The pure statement of the law ConvexInterior. -/
import Derived.Test.YtlnigbhimdphoaaCq
import Derived.Test.YtlnigbhimdphoaaCx28
namespace Go.Proofs.Ytlnigbhimdphoaa.C
open Go Go.RowKit Go.Proofs.YtlnigbhimdphoaaW.PrintWords Go.Proofs.YtlnigbhimdphoaaW.PrintLast Go.Proofs.YtlnigbhimdphoaaW.PrintMore
set_option linter.unusedVariables false
set_option linter.unusedSimpArgs false
def ConvexInterior.Pure : Prop := ∀ (l0 : List (S30)) (a1_0 : Int) (a1_1 : Int) (a2_0 : Int) (a2_1 : Int), (l0.length ≤ maxLen ∧ ∀ y0_ ∈ l0, Q30 y0_) → Q30 (⟨a1_0, a1_1⟩ : S30) → Q30 (⟨a2_0, a2_1⟩ : S30) → ∃ k, garmentlaw14_ConvexInterior.f k l0 a1_0 a1_1 a2_0 a2_1 = some true

end Go.Proofs.Ytlnigbhimdphoaa.C
