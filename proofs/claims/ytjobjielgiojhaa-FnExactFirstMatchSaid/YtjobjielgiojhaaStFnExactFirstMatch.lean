/- The pure statement of FnExactFirstMatch: over numbers and lists alone. -/
import Derived.Test.YtjobjielgiojhaaPAllx26
namespace Go.Proofs.Ytjobjielgiojhaa.PAll
open Go.RowKit Go.Proofs.YtjobjielgiojhaaW.PrintWords Go.Proofs.YtjobjielgiojhaaW.PrintLast Go.Proofs.YtjobjielgiojhaaW.PrintMore

def laws_FnExactFirstMatch.Pure : Prop := ∀ (l0_0 : List Int) (l1 : List (List (S143))) (l2 : List Int), (l0_0.length ≤ 9223372036854775807 ∧ ∀ xl00_ ∈ l0_0, (Lit.int .i64 xl00_).wf = true) → (l1.length ≤ 9223372036854775807 ∧ ∀ xl1_ ∈ l1, (xl1_.length ≤ 9223372036854775807 ∧ ∀ xxl1_ ∈ xl1_, ((Lit.int .i64 xxl1_.f0).wf = true ∧ (Lit.int .i64 xxl1_.f1).wf = true))) → (l2.length ≤ 9223372036854775807 ∧ ∀ xl2_ ∈ l2, (Lit.int .i64 xl2_).wf = true) → ∃ k, laws_FnExactFirstMatch.f k l0_0 l1 l2 = some true

end Go.Proofs.Ytjobjielgiojhaa.PAll
