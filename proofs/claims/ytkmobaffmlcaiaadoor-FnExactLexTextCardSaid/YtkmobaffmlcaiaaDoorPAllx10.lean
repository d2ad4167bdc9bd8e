-- Made by drive.py (the kit's print, with our own contracts beside it) for seat YtkmobaffmlcaiaaDoor.
import Derived.Test.YtkmobaffmlcaiaaDoorPAllx0
namespace Go.Proofs.YtkmobaffmlcaiaaDoor.PAll
open Go.RowKit Go.Proofs.YtkmobaffmlcaiaaDoorW.PrintWords Go.Proofs.YtkmobaffmlcaiaaDoorW.PrintLast Go.Proofs.YtkmobaffmlcaiaaDoorW.PrintMore
attribute [local go_sem] max2_int min2_int max_two min_two max_three min_three max_four min_four   -- for this text's walks alone
set_option linter.unusedVariables false
set_option linter.unusedSimpArgs false

-- NOT PRINTED: function 117 (bits_TrailingZeros)

-- NOT PRINTED: function 107 (strconv_formatBits)

-- NOT PRINTED: function 100 (strconv_FormatInt)

-- NOT PRINTED: function 92 (strconv_Itoa_92)

-- NOT PRINTED: function 75 (strconv_Itoa_75)

-- NOT PRINTED: function 40 (impl_Token_text)

-- NOT PRINTED: function 13 (impl_TokenText)

-- NOT PRINTED: function 3 (laws_FnExactTokenText)

/-! ### spec_l1Digit: function 93 -/
def spec_l1Digit.f (a0 : Int) : Option (Bool) := if a0 ≥ 48 then (some (decide (a0 ≤ 57))) else (some false)
set_option maxHeartbeats 8000000 in
set_option maxRecDepth 100000 in
theorem spec_l1Digit.calls (a0 : Int) (r : Bool) (w : World) (h : spec_l1Digit.f a0 = some r) :
    Calls Tryd.prog 93 #[.int .u8 a0] w fun e w' => e = .returned (.bool r) ∧ Drawn0 w w' := by
  have H : (if a0 ≥ 48 then (some (decide (a0 ≤ 57))) else (some false)) = some r := h
  clear h
  by_cases c2 : a0 ≥ 48
  · rw [if_pos c2] at H
    have c2b0 : decide (48 ≤ a0) = true := decide_eq_true c2
    clear c2
    obtain rfl := Option.some.inj H
    go_enter Tryd.func93, Tryd.ntmps93
    go_wp2
    go_ret
    exact ⟨by first | rfl | (simp; done) | (simp [*]; done), by repeat (first | exact Drawn0.refl _ | apply Drawn0.step)⟩
  · rw [if_neg c2] at H
    have c2b0 : decide (48 ≤ a0) = false := decide_eq_false c2
    clear c2
    obtain rfl := Option.some.inj H
    go_enter Tryd.func93, Tryd.ntmps93
    go_wp2
    go_ret
    exact ⟨by first | rfl | (simp; done) | (simp [*]; done), by repeat (first | exact Drawn0.refl _ | apply Drawn0.step)⟩

end Go.Proofs.YtkmobaffmlcaiaaDoor.PAll
