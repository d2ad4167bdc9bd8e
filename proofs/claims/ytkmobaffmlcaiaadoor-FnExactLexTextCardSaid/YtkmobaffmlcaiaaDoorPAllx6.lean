-- Made by drive.py (the kit's print, with our own contracts beside it) for seat YtkmobaffmlcaiaaDoor.
import Derived.Test.YtkmobaffmlcaiaaDoorPAllx0
import Derived.Test.YtkmobaffmlcaiaaDoorHwordA
namespace Go.Proofs.YtkmobaffmlcaiaaDoor.PAll
open Go.RowKit Go.Proofs.YtkmobaffmlcaiaaDoorW.PrintWords Go.Proofs.YtkmobaffmlcaiaaDoorW.PrintLast Go.Proofs.YtkmobaffmlcaiaaDoorW.PrintMore
attribute [local go_sem] max2_int min2_int max_two min_two max_three min_three max_four min_four   -- for this text's walks alone
set_option linter.unusedVariables false
set_option linter.unusedSimpArgs false

/-! ### impl_nameOk: function 60 -/
-- INJECTED Derived.Test.YtkmobaffmlcaiaaDoorHwordA
def impl_nameOk.f (a0 : ByteArray) : Option (Bool) := if a0.size ≤ 9223372036854775807 then some (nameB a0) else none
theorem impl_nameOk.calls (a0 : ByteArray) (r : Bool) (w : World) (h : impl_nameOk.f a0 = some r) :
    Calls Tryd.prog 60 #[.string a0] w fun e w' => e = .returned (.bool r) ∧ Below w.heap.size w w' := by
  unfold impl_nameOk.f at h
  split at h
  · obtain rfl := Option.some.inj h
    exact nameOk_calls a0 w (by unfold maxLen; omega)
  · cases h


end Go.Proofs.YtkmobaffmlcaiaaDoor.PAll
