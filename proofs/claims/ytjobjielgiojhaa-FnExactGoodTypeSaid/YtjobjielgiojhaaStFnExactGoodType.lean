/- The pure statement of FnExactGoodType: over numbers and lists alone. -/
import Derived.Test.YtjobjielgiojhaaPAllx16
namespace Go.Proofs.Ytjobjielgiojhaa.PAll
open Go.RowKit Go.Proofs.YtjobjielgiojhaaW.PrintWords Go.Proofs.YtjobjielgiojhaaW.PrintLast Go.Proofs.YtjobjielgiojhaaW.PrintMore

def laws_FnExactGoodType.Pure : Prop := ∀ (l0 : List (S127)), (l0.length ≤ 9223372036854775807 ∧ ∀ xl0_ ∈ l0, ((Lit.int .i64 xl0_.f0).wf = true ∧ (Lit.int .i64 xl0_.f1).wf = true)) → ∃ k, laws_FnExactGoodType.f k l0 = some true

end Go.Proofs.Ytjobjielgiojhaa.PAll
