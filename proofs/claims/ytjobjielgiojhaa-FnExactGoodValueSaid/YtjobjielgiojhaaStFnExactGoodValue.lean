/- The pure statement of FnExactGoodValue: over numbers and lists alone. -/
import Derived.Test.YtjobjielgiojhaaPAllx12
namespace Go.Proofs.Ytjobjielgiojhaa.PAll
open Go.RowKit Go.Proofs.YtjobjielgiojhaaW.PrintWords Go.Proofs.YtjobjielgiojhaaW.PrintLast Go.Proofs.YtjobjielgiojhaaW.PrintMore

def laws_FnExactGoodValue.Pure : Prop := ∀ (l0_0 : List Int) (l1 : List Int), (l0_0.length ≤ 9223372036854775807 ∧ ∀ xl00_ ∈ l0_0, (Lit.int .i64 xl00_).wf = true) → (l1.length ≤ 9223372036854775807 ∧ ∀ xl1_ ∈ l1, (Lit.int .i64 xl1_).wf = true) → ∃ k, laws_FnExactGoodValue.f k l0_0 l1 = some true

end Go.Proofs.Ytjobjielgiojhaa.PAll
