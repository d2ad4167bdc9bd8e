/- The pure statement of FnExactGoodData: over numbers and lists alone. -/
import Derived.Test.YtjobjielgiojhaaPAllx4
namespace Go.Proofs.Ytjobjielgiojhaa.PAll
open Go.RowKit Go.Proofs.YtjobjielgiojhaaW.PrintWords Go.Proofs.YtjobjielgiojhaaW.PrintLast Go.Proofs.YtjobjielgiojhaaW.PrintMore

def laws_FnExactGoodData.Pure : Prop := ∀ (l0_0 : List Int), (l0_0.length ≤ 9223372036854775807 ∧ ∀ xl00_ ∈ l0_0, (Lit.int .i64 xl00_).wf = true) → ∃ k, laws_FnExactGoodData.f k l0_0 = some true

end Go.Proofs.Ytjobjielgiojhaa.PAll
