/- FnExactConstants: the law's printed function answers true (plain; no premise). -/
import Derived.Test.YtjobjielgiojhaaPFnExactConstantsx1
namespace Go.Proofs.Ytjobjielgiojhaa.Pure
open Go.RowKit Go.Proofs.Ytjobjielgiojhaa.PFnExactConstants Go.Proofs.YtjobjielgiojhaaW.PrintWords Go.Proofs.YtjobjielgiojhaaW.PrintLast

/-- YOURS: laws_FnExactConstants.f  = some true
What it reaches (each with k first where it has rounds; `.mono`: more rounds tell the same; `.l0`, ..: its loops, with `.mono_l`): laws_FnExactConstants.f -/
theorem FnExactConstants : laws_FnExactConstants.Pure := by
  rfl

end Go.Proofs.Ytjobjielgiojhaa.Pure
