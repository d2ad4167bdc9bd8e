/- isDigit, run over digits; tokenAt by its contract. -/
import Derived.Test.YtkmobaffmlcaiaaDoorHwordA
import Derived.Test.YtkmobaffmlcaiaaDoorHshelfB
import Derived.Test.YtkmobaffmlcaiaaDoorPAllx5
import Derived.Lib.AtoiTie
namespace Go.Proofs.YtkmobaffmlcaiaaDoor.PAll
open Go.RowKit Go.Proofs.YtkmobaffmlcaiaaDoorW.PrintWords Go.Proofs.YtkmobaffmlcaiaaDoorW.PrintLast Go.Proofs.YtkmobaffmlcaiaaDoorW.PrintMore
set_option linter.unusedVariables false
set_option linter.unusedSimpArgs false

def digI (c : Int) : Bool := decide (48 ≤ c) && decide (c ≤ 57)
def digB (c : UInt8) : Bool := digI (c.toNat : Int)

theorem isDigit_calls (c : Int) (w : World) : Calls Tryd.prog 94 #[.int .u8 c] w fun e w' => e = .returned (.bool (digI c)) ∧ w = w' := by
  by_cases h : 48 ≤ c
  · have c0 : decide (48 ≤ c) = true := decide_eq_true h
    have e : digI c = decide (c ≤ 57) := by simp [digI, h]
    have E := Lib.hid e
    clear e h
    go_enter Tryd.func94, Tryd.ntmps94
    go_wp2
    go_ret
    exact ⟨by rw [E.out]; rfl, rfl⟩
  · have c0 : decide (48 ≤ c) = false := decide_eq_false h
    have e : digI c = false := by simp [digI]; omega
    rw [e]
    clear e h
    go_enter Tryd.func94, Tryd.ntmps94
    go_wp2
    go_ret
    exact ⟨rfl, rfl⟩

/-- How many digits stand at the head. -/
def leadD (s : ByteArray) : Nat := (s.data.toList.takeWhile digB).length

theorem leadD_of (s : ByteArray) (k : Nat) (hk : k ≤ s.size) (ha : ∀ x ∈ s.data.toList.take k, digB x = true) (hb : ∀ h : k < s.size, digB s[k] = false) : leadD s = k := by
  unfold leadD
  have hs : s.data.toList = s.data.toList.take k ++ s.data.toList.drop k := (List.take_append_drop k _).symm
  rw [hs, List.takeWhile_append_of_pos ha]
  have hd : (s.data.toList.drop k).takeWhile digB = [] := by
    by_cases h : k < s.size
    · rw [List.drop_eq_getElem_cons (by simpa using h), List.takeWhile_cons]
      have := hb h
      have e : s.data.toList[k]'(by simpa using h) = s[k] := rfl
      rw [e, this]
      rfl
    · rw [List.drop_of_length_le (by simp; omega)]; rfl
  rw [hd]
  have : s.data.toList.length = s.size := by simp
  simp; omega

set_option maxRecDepth 100000 in
set_option maxHeartbeats 1000000 in
theorem runDigit_calls (s : ByteArray) (w : World) (hs : s.size ≤ maxLen) : Calls Tryd.prog 83 #[.string s, .func (.func 94) #[] #[]] w fun e w' => e = .returned (.int .i64 (leadD s)) ∧ Below w.heap.size w w' := by
  unfold maxLen at hs
  go_enter Tryd.func83, Tryd.ntmps83
  go_wp2
  go_loopw [5] (fun v5 wr => ∃ k : Nat, k ≤ s.size ∧ v5 = .int .i64 k ∧ Hid (∀ x ∈ s.data.toList.take k, digB x = true) ∧ Below w.heap.size w wr) (fun v5 _ => s.size - (intOf v5).toNat)
  case atStart => exact ⟨0, Nat.zero_le _, rfl, Lib.hid (by simp), Below.refl _ _⟩
  case round =>
    obtain ⟨k, hk, rfl, HA, HB⟩ := hrel
    by_cases hlt : k < s.size
    · cases hb : digB s[k] with
      | true =>
        have HBX := Lib.hid hb
        clear hb
        go_wp2_with (go_at_call 94; refine (isDigit_calls _ _).mono ?_; rintro e w' ⟨rfl, rfl⟩; rw [show digI ((s[k].toNat : Int)) = true from HBX.out])
        go_roundw
        case rel =>
          refine ⟨k + 1, by omega, by go_num, Lib.hid ?_, HB⟩
          intro y hy
          rw [List.take_succ_eq_append_getElem (by simpa using hlt)] at hy
          simp at hy
          rcases hy with hy | rfl
          · exact HA.out y hy
          · exact HBX.out
        case measure => simp [intOf]; omega
      | false =>
        have HBX := Lib.hid hb
        clear hb
        go_wp2_with (go_at_call 94; refine (isDigit_calls _ _).mono ?_; rintro e w' ⟨rfl, rfl⟩; rw [show digI ((s[k].toNat : Int)) = false from HBX.out])
        go_ret
        exact ⟨by rw [leadD_of s k hk HA.out (fun _ => HBX.out)]; rfl, HB⟩
    · go_wp2
      go_ret
      exact ⟨by rw [leadD_of s k hk HA.out (fun h => absurd h hlt)]; rfl, HB⟩


end Go.Proofs.YtkmobaffmlcaiaaDoor.PAll
