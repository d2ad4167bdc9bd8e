/- isLetter, run over letters, nameOk. -/
import Derived.Test.YtkmobaffmlcaiaaDoorPAllx0
import Derived.Lib.Hide
namespace Go.Proofs.YtkmobaffmlcaiaaDoor.PAll
open Go.RowKit Go.Proofs.YtkmobaffmlcaiaaDoorW.PrintWords Go.Proofs.YtkmobaffmlcaiaaDoorW.PrintLast Go.Proofs.YtkmobaffmlcaiaaDoorW.PrintMore
set_option linter.unusedVariables false
set_option linter.unusedSimpArgs false

def lettI (c : Int) : Bool := decide (97 ≤ c) && decide (c ≤ 122)
def lettB (c : UInt8) : Bool := lettI (c.toNat : Int)

theorem isLetter_calls (c : Int) (w : World) : Calls Tryd.prog 84 #[.int .u8 c] w fun e w' => e = .returned (.bool (lettI c)) ∧ w = w' := by
  by_cases h : 97 ≤ c
  · have c0 : decide (97 ≤ c) = true := decide_eq_true h
    have e : lettI c = decide (c ≤ 122) := by simp [lettI, h]
    have E := Lib.hid e
    clear e h
    go_enter Tryd.func84, Tryd.ntmps84
    go_wp2
    go_ret
    exact ⟨by rw [E.out]; rfl, rfl⟩
  · have c0 : decide (97 ≤ c) = false := decide_eq_false h
    have e : lettI c = false := by simp [lettI]; omega
    rw [e]
    clear e h
    go_enter Tryd.func84, Tryd.ntmps84
    go_wp2
    go_ret
    exact ⟨rfl, rfl⟩

/-- How many letters stand at the head. -/
def lead (s : ByteArray) : Nat := (s.data.toList.takeWhile lettB).length

theorem lead_of (s : ByteArray) (k : Nat) (hk : k ≤ s.size) (ha : ∀ x ∈ s.data.toList.take k, lettB x = true) (hb : ∀ h : k < s.size, lettB s[k] = false) : lead s = k := by
  unfold lead
  have hs : s.data.toList = s.data.toList.take k ++ s.data.toList.drop k := (List.take_append_drop k _).symm
  rw [hs, List.takeWhile_append_of_pos ha]
  have hd : (s.data.toList.drop k).takeWhile lettB = [] := by
    by_cases h : k < s.size
    · rw [List.drop_eq_getElem_cons (by simpa using h), List.takeWhile_cons]
      have := hb h
      have e : s.data.toList[k]'(by simpa using h) = s[k] := rfl
      rw [e, this]
      rfl
    · rw [List.drop_of_length_le (by simp; omega)]; rfl
  rw [hd]
  have : s.data.toList.length = s.size := by simp
  simp; omega

set_option maxRecDepth 100000 in
set_option maxHeartbeats 1000000 in
theorem runLetter_calls (s : ByteArray) (w : World) (hs : s.size ≤ maxLen) : Calls Tryd.prog 83 #[.string s, .func (.func 84) #[] #[]] w fun e w' => e = .returned (.int .i64 (lead s)) ∧ Below w.heap.size w w' := by
  unfold maxLen at hs
  go_enter Tryd.func83, Tryd.ntmps83
  go_wp2
  go_loopw [5] (fun v5 wr => ∃ k : Nat, k ≤ s.size ∧ v5 = .int .i64 k ∧ Hid (∀ x ∈ s.data.toList.take k, lettB x = true) ∧ Below w.heap.size w wr) (fun v5 _ => s.size - (intOf v5).toNat)
  case atStart => exact ⟨0, Nat.zero_le _, rfl, Lib.hid (by simp), Below.refl _ _⟩
  case round =>
    obtain ⟨k, hk, rfl, HA, HB⟩ := hrel
    by_cases hlt : k < s.size
    · cases hb : lettB s[k] with
      | true =>
        have HBX := Lib.hid hb
        clear hb
        go_wp2_with (go_at_call 84; refine (isLetter_calls _ _).mono ?_; rintro e w' ⟨rfl, rfl⟩; rw [show lettI ((s[k].toNat : Int)) = true from HBX.out])
        go_roundw
        case rel =>
          refine ⟨k + 1, by omega, by go_num, Lib.hid ?_, HB⟩
          intro y hy
          rw [List.take_succ_eq_append_getElem (by simpa using hlt)] at hy
          simp at hy
          rcases hy with hy | rfl
          · exact HA.out y hy
          · exact HBX.out
        case measure => simp [intOf]; omega
      | false =>
        have HBX := Lib.hid hb
        clear hb
        go_wp2_with (go_at_call 84; refine (isLetter_calls _ _).mono ?_; rintro e w' ⟨rfl, rfl⟩; rw [show lettI ((s[k].toNat : Int)) = false from HBX.out])
        go_ret
        exact ⟨by rw [lead_of s k hk HA.out (fun _ => HBX.out)]; rfl, HB⟩
    · go_wp2
      go_ret
      exact ⟨by rw [lead_of s k hk HA.out (fun h => absurd h hlt)]; rfl, HB⟩

theorem isEmpty_iff (s : ByteArray) : s.toList.isEmpty = decide (s.size = 0) := by
  rw [ByteArray.toList_eq]
  have : s.data.toList.length = s.size := by simp
  cases h : s.data.toList with
  | nil => rw [h] at this; simp only [List.length_nil] at this; rw [decide_eq_true this.symm]; rfl
  | cons x l => rw [h] at this; simp only [List.length_cons] at this; rw [decide_eq_false (by omega)]; rfl

def nameB (s : ByteArray) : Bool := decide (1 ≤ s.size) && decide (s.size ≤ 8) && decide (lead s = s.size)

set_option maxRecDepth 100000 in
theorem nameOk_calls (s : ByteArray) (w : World) (hs : s.size ≤ maxLen) : Calls Tryd.prog 60 #[.string s] w fun e w' => e = .returned (.bool (nameB s)) ∧ Below w.heap.size w w' := by
  have hs' := hs
  unfold maxLen at hs'
  by_cases h0 : s.size = 0
  · have e : nameB s = false := by simp [nameB, h0]
    rw [e]
    have es : s.toList.isEmpty = true := by rw [isEmpty_iff]; simp [h0]
    clear e h0
    go_enter Tryd.func60, Tryd.ntmps60
    go_wp2
    go_ret
    exact ⟨rfl, Below.refl _ _⟩
  · have es : s.toList.isEmpty = false := by rw [isEmpty_iff]; simpa using h0
    by_cases h8 : s.size ≤ 8
    · have e8 : decide ((s.size : Int) ≤ 8) = true := decide_eq_true (by omega)
      have e : nameB s = decide ((lead s : Int) = s.size) := by
        have h1 : 1 ≤ s.size := by omega
        have : decide ((lead s : Int) = s.size) = decide (lead s = s.size) := by rw [decide_eq_decide]; omega
        rw [this]
        simp [nameB, h8, h1]
      have E := Lib.hid e
      clear e h0
      go_enter Tryd.func60, Tryd.ntmps60
      go_wp2_with (go_at_call 83; refine (runLetter_calls s _ hs).mono ?_; rintro e w' ⟨rfl, hb⟩)
      go_ret
      exact ⟨by rw [E.out]; rfl, hb⟩
    · have e8 : decide ((s.size : Int) ≤ 8) = false := decide_eq_false (by omega)
      have e : nameB s = false := by simp [nameB, h8]
      rw [e]
      clear e h0
      go_enter Tryd.func60, Tryd.ntmps60
      go_wp2
      go_ret
      exact ⟨rfl, Below.refl _ _⟩
end Go.Proofs.YtkmobaffmlcaiaaDoor.PAll
