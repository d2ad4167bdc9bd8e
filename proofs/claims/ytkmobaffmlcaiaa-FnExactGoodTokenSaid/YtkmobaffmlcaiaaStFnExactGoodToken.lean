/- The pure statement of FnExactGoodToken: over numbers and lists alone. -/
import Derived.Test.YtkmobaffmlcaiaaPAllx6
namespace Go.Proofs.Ytkmobaffmlcaiaa.PAll
open Go.RowKit Go.Proofs.YtkmobaffmlcaiaaW.PrintWords Go.Proofs.YtkmobaffmlcaiaaW.PrintLast Go.Proofs.YtkmobaffmlcaiaaW.PrintMore

def laws_FnExactGoodToken.Pure : Prop := ∀ (a0_0 : Int) (a0_1 : Int) (a0_2 : ByteArray) (a0_3 : Int), (Lit.int .i64 a0_0).wf = true → (Lit.int .i64 a0_1).wf = true → a0_2.size ≤ maxLen → (Lit.int .i64 a0_3).wf = true → ∃ k, laws_FnExactGoodToken.f k a0_0 a0_1 a0_2 a0_3 = some true

end Go.Proofs.Ytkmobaffmlcaiaa.PAll
