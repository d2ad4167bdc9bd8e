/- The pure statement of FnExactGoodRules: over numbers and lists alone. -/
import Derived.Test.YtjobjielgiojhaaPAllx22
namespace Go.Proofs.Ytjobjielgiojhaa.PAll
open Go.RowKit Go.Proofs.YtjobjielgiojhaaW.PrintWords Go.Proofs.YtjobjielgiojhaaW.PrintLast Go.Proofs.YtjobjielgiojhaaW.PrintMore

def laws_FnExactGoodRules.Pure : Prop := ∀ (l0_0 : List Int) (l1 : List (List (S143))), (l0_0.length ≤ 9223372036854775807 ∧ ∀ xl00_ ∈ l0_0, (Lit.int .i64 xl00_).wf = true) → (l1.length ≤ 9223372036854775807 ∧ ∀ xl1_ ∈ l1, (xl1_.length ≤ 9223372036854775807 ∧ ∀ xxl1_ ∈ xl1_, ((Lit.int .i64 xxl1_.f0).wf = true ∧ (Lit.int .i64 xxl1_.f1).wf = true))) → ∃ k, laws_FnExactGoodRules.f k l0_0 l1 = some true

end Go.Proofs.Ytjobjielgiojhaa.PAll
