/- GoodData by its contract: IndexFunc and ContainsFunc over numbers with its closure. -/
import Derived.Lib.Hide
import Derived.Test.YtjobjielgiojhaaPAllx4
import Derived.Test.YtjobjielgiojhaaPAllx5
namespace Go.Proofs.Ytjobjielgiojhaa.PAll
open Go.RowKit Go.Proofs.YtjobjielgiojhaaW.PrintWords Go.Proofs.YtjobjielgiojhaaW.PrintLast Go.Proofs.YtjobjielgiojhaaW.PrintMore
set_option linter.unusedVariables false
set_option linter.unusedSimpArgs false

theorem dwithin_yes (n lo hi : Int) (w : World) (h0 : lo ≤ n) (h1 : n ≤ hi) : Calls Try.prog 53 #[.int .i64 n, .int .i64 lo, .int .i64 hi] w fun e w' => e = .returned (.bool true) ∧ w = w' := by
  have c0 : decide (lo ≤ n) = true := decide_eq_true h0
  have c1 : decide (n ≤ hi) = true := decide_eq_true h1
  clear h0 h1
  go_enter Try.func53, Try.ntmps53
  go_wp2
  go_ret
  exact ⟨rfl, rfl⟩
theorem dwithin_no (n lo hi : Int) (w : World) (h : ¬ (lo ≤ n ∧ n ≤ hi)) : Calls Try.prog 53 #[.int .i64 n, .int .i64 lo, .int .i64 hi] w fun e w' => e = .returned (.bool false) ∧ w = w' := by
  by_cases h0 : lo ≤ n
  · have c0 : decide (lo ≤ n) = true := decide_eq_true h0
    have c1 : decide (n ≤ hi) = false := decide_eq_false (fun x => h ⟨h0, x⟩)
    clear h0 h
    go_enter Try.func53, Try.ntmps53
    go_wp2
    go_ret
    exact ⟨rfl, rfl⟩
  · have c0 : decide (lo ≤ n) = false := decide_eq_false h0
    clear h0 h
    go_enter Try.func53, Try.ntmps53
    go_wp2
    go_ret
    exact ⟨rfl, rfl⟩
theorem dwithin_calls (n lo hi : Int) (w : World) : Calls Try.prog 53 #[.int .i64 n, .int .i64 lo, .int .i64 hi] w fun e w' => e = .returned (.bool (decide (lo ≤ n ∧ n ≤ hi))) ∧ w = w' := by
  by_cases h : lo ≤ n ∧ n ≤ hi
  · rw [decide_eq_true h]; exact dwithin_yes n lo hi w h.1 h.2
  · rw [decide_eq_false h]; exact dwithin_no n lo hi w h

/-- A constructor's parts, well within. -/
def consB (n : Int) : Bool := decide (0 ≤ n) && decide (n ≤ 2)

theorem notCons_calls (n : Int) (w : World) : Calls Try.prog 56 #[.int .i64 n] w fun e w' => e = .returned (.bool (!consB n)) ∧ Below w.heap.size w w' := by
  go_enter Try.func56, Try.ntmps56
  go_wp2_with (go_at_call 53; refine (dwithin_calls n 0 2 _).mono ?_; rintro e w' ⟨rfl, rfl⟩)
  go_ret
  exact ⟨by simp only [consB, Bool.not_and]; rfl, Below.refl _ _⟩

set_option maxRecDepth 100000 in
set_option maxHeartbeats 1000000 in
theorem indexCons_calls (l : List Int) (A : Option Addr) (c : Nat) (w : World) (hr : Kd.C (Kd.int .i64) w A l.length l) (hc : l.length ≤ c) :
    Calls Try.prog 88 #[.slice A l.length c, .func (.func 56) #[] #[]] w fun e w' => (∃ n : Int, e = .returned (.int .i64 n) ∧ (0 ≤ n ↔ l.any (fun x => !consB x) = true)) ∧ Below w.heap.size w w' := by
  have hm := hr.2.1
  have HR := Lib.hid hr
  clear hr
  go_enter Try.func88, Try.ntmps88
  go_wp2
  go_loopw [5, 8] (fun v5 v8 wr => ∃ k : Nat, k ≤ l.length ∧ v8 = .int .i64 k ∧ Hid (∀ x ∈ l.take k, consB x = true) ∧ Below w.heap.size w wr) (fun _ v8 _ => l.length - (intOf v8).toNat)
  case atStart => exact ⟨0, Nat.zero_le _, rfl, Lib.hid (by simp), Below.refl _ _⟩
  case round =>
    obtain ⟨k, hk, rfl, HA, HB⟩ := hrel
    by_cases hlt : k < l.length
    · obtain ⟨ad, hA, hc0⟩ := Kd.at_int (Kd.C_below HR.out HB) (k : Int) (by omega) (by omega)
      subst hA
      obtain ⟨x, hx⟩ : ∃ x, x = rd l (k : Int) := ⟨_, rfl⟩
      rw [← hx] at hc0
      simp only [Int.toNat_natCast] at hc0
      have hxl : l[k]? = some x := by rw [hx, rd, List.getD_eq_getElem?_getD]; simp [List.getElem?_eq_getElem hlt]
      have HX := Lib.hid hxl
      clear hx hxl
      cases hb : consB x with
      | true =>
        have HBX := Lib.hid hb
        clear hb
        go_wp2_with (go_at_call 56; refine (notCons_calls x _).mono ?_; rw [HBX.out]; rintro e w' ⟨rfl, hbw⟩)
        go_roundw
        case rel =>
          refine ⟨k + 1, by omega, by go_num, Lib.hid ?_, below_step HB hbw⟩
          intro y hy
          rw [List.take_add_one, HX.out] at hy
          simp at hy
          rcases hy with hy | rfl
          · exact HA.out y hy
          · exact HBX.out
        case measure => simp [intOf]; omega
      | false =>
        have HBX := Lib.hid hb
        clear hb
        go_wp2_with (go_at_call 56; refine (notCons_calls x _).mono ?_; rw [HBX.out]; rintro e w' ⟨rfl, hbw⟩)
        go_ret
        refine ⟨⟨k, rfl, ?_⟩, below_step HB hbw⟩
        have : x ∈ l := List.mem_of_getElem? HX.out
        simp only [List.any_eq_true]
        exact ⟨fun _ => ⟨x, this, by simp [HBX.out]⟩, fun _ => by omega⟩
    · have : k = l.length := by omega
      subst this
      go_wp2
      go_ret
      refine ⟨⟨-1, rfl, ?_⟩, HB⟩
      have := HA.out
      rw [List.take_length] at this
      simp only [List.any_eq_true]
      constructor
      · intro h; omega
      · rintro ⟨x, hx, h⟩
        rw [this x hx] at h
        cases h

theorem containsCons_calls (l : List Int) (A : Option Addr) (c : Nat) (w : World) (hr : Kd.C (Kd.int .i64) w A l.length l) (hc : l.length ≤ c) :
    Calls Try.prog 55 #[.slice A l.length c, .func (.func 56) #[] #[]] w fun e w' => e = .returned (.bool (l.any (fun x => !consB x))) ∧ Below w.heap.size w w' := by
  have HR := Lib.hid hr
  clear hr
  cases hb : l.any (fun x => !consB x) with
  | true =>
    have H := Lib.hid hb
    clear hb
    go_enter Try.func55, Try.ntmps55
    go_wp2_with (go_at_call 88; refine (indexCons_calls l A c _ HR.out hc).mono ?_; rw [H.out]; rintro e w' ⟨⟨n, rfl, hn⟩, hbw⟩; have hn0 : 0 ≤ n := hn.2 rfl; clear hn)
    go_ret
    exact ⟨by simp [hn0], hbw⟩
  | false =>
    have H := Lib.hid hb
    clear hb
    go_enter Try.func55, Try.ntmps55
    go_wp2_with (go_at_call 88; refine (indexCons_calls l A c _ HR.out hc).mono ?_; rw [H.out]; rintro e w' ⟨⟨n, rfl, hn⟩, hbw⟩; have hn0 : ¬ 0 ≤ n := fun z => Bool.noConfusion (hn.1 z); clear hn)
    go_ret
    exact ⟨by simp; omega, hbw⟩

theorem index0_eq (l : List Int) (hm : l.length ≤ 1000) : ∀ (d i k : Nat), i + d = l.length → d < k → ∃ n, slices_Index_int_int.l0 k l 0 (l.length : Int) (i : Int) = some n ∧ (0 ≤ n ↔ (0 : Int) ∈ l.drop i) := by
  intro d
  induction d with
  | zero =>
    intro i k hi hk
    obtain ⟨k, rfl⟩ : ∃ m, k = m + 1 := ⟨k - 1, by omega⟩
    simp only [slices_Index_int_int.l0]
    rw [if_neg (by omega), List.drop_eq_nil_of_le (by omega)]
    exact ⟨-1, rfl, by simp⟩
  | succ d ih =>
    intro i k hi hk
    obtain ⟨k, rfl⟩ : ∃ m, k = m + 1 := ⟨k - 1, by omega⟩
    have hlt : i < l.length := by omega
    have hr : rd l (i : Int) = l[i] := by simp [rd, List.getD_eq_getElem?_getD, List.getElem?_eq_getElem hlt]
    have hw : wrap64 ((i : Int) + 1) = ((i + 1 : Nat) : Int) := by unfold wrap64; omega
    simp only [slices_Index_int_int.l0]
    rw [if_pos (by omega), if_pos (by omega), if_pos (by omega), hr, hw, List.drop_eq_getElem_cons hlt]
    by_cases h0 : (0 : Int) = l[i]
    · rw [if_pos h0]; exact ⟨(i : Int), rfl, by rw [← h0]; simp⟩
    · rw [if_neg h0]
      obtain ⟨n, hn, e⟩ := ih (i + 1) k (by omega) (by omega)
      exact ⟨n, hn, by rw [e, List.mem_cons]; exact ⟨Or.inr, fun h => h.resolve_left h0⟩⟩

theorem contains0_eq (l : List Int) (hm : l.length ≤ 1000) : slices_Contains_int_int.f 1001 l 0 = some (l.contains 0) := by
  obtain ⟨n, hn, e⟩ := index0_eq l hm l.length 0 1001 (by omega) (by omega)
  unfold slices_Contains_int_int.f slices_Index_int_int.f
  simp only [Int.cast_ofNat_Int] at hn
  rw [hn, Option.bind_some]
  congr 1
  rw [List.drop_zero] at e
  rw [Bool.eq_iff_iff]
  simpa using e

def dataB (l : List Int) : Bool := decide (1 ≤ (l.length : Int) ∧ (l.length : Int) ≤ 4) && (l.contains 0 && !l.any (fun x => !consB x))

set_option maxRecDepth 100000 in
set_option maxHeartbeats 1000000 in
theorem GoodData_calls (l : List Int) (A : Option Addr) (c : Nat) (w : World) (hr : Kd.C (Kd.int .i64) w A l.length l) (hc : l.length ≤ c) :
    Calls Try.prog 16 #[.agg #[.slice A l.length c]] w fun e w' => e = .returned (.bool (dataB l)) ∧ Below w.heap.size w w' := by
  have hm := hr.2.1
  have HR := Lib.hid hr
  clear hr
  by_cases h : 1 ≤ (l.length : Int) ∧ (l.length : Int) ≤ 4
  · have h0 := h.1
    have h1 := h.2
    have HC := Lib.hid (contains0_eq l (by omega))
    cases hz : l.contains 0 with
    | false =>
      have e : dataB l = false := by simp only [dataB, hz]; simp
      rw [e]
      have HZ := Lib.hid hz
      clear e hz h
      go_enter Try.func16, Try.ntmps16
      go_wp2_with (first | (go_at_call 53; refine (dwithin_yes _ _ _ _ h0 h1).mono ?_; rintro e w' ⟨rfl, rfl⟩) | (go_at_call 54; refine (slices_Contains_int_int.calls 1001 A c l 0 false _ (Kd.C_below HR.out (below_alloc (Below.refl _ _) _)) hc (by rw [HC.out, HZ.out])).mono ?_; rintro e w' ⟨rfl, ⟨nd, rfl⟩⟩))
      go_ret
      exact ⟨rfl, by repeat (first | exact Below.refl _ _ | apply pw_below_drewN | apply below_drew1 | apply below_alloc)⟩
    | true =>
      have e : dataB l = !l.any (fun x => !consB x) := by simp only [dataB, hz, decide_eq_true h]; simp
      have HE := Lib.hid e
      have HZ := Lib.hid hz
      clear e hz h
      go_enter Try.func16, Try.ntmps16
      go_wp2_with (first | (go_at_call 53; refine (dwithin_yes _ _ _ _ h0 h1).mono ?_; rintro e w' ⟨rfl, rfl⟩) | (go_at_call 54; refine (slices_Contains_int_int.calls 1001 A c l 0 true _ (Kd.C_below HR.out (below_alloc (Below.refl _ _) _)) hc (by rw [HC.out, HZ.out])).mono ?_; rintro e w' ⟨rfl, ⟨nd, rfl⟩⟩) | (go_at_call 55; refine (containsCons_calls l A c _ (Kd.C_below HR.out (by repeat (first | exact Below.refl _ _ | apply pw_below_drewN | apply below_drew1 | apply below_alloc))) hc).mono ?_; rintro e w' ⟨rfl, hb⟩))
      go_ret
      exact ⟨by rw [HE.out]; first | done | rfl, below_step (by repeat (first | exact Below.refl _ _ | apply pw_below_drewN | apply below_drew1 | apply below_alloc)) hb⟩
  · have e : dataB l = false := by simp only [dataB, decide_eq_false h]; simp
    rw [e]
    have H := Lib.hid h
    clear e h
    go_enter Try.func16, Try.ntmps16
    go_wp2_with (go_at_call 53; refine (dwithin_no _ _ _ _ H.out).mono ?_; rintro e w' ⟨rfl, rfl⟩)
    go_ret
    exact ⟨rfl, below_alloc (Below.refl _ _) _⟩
end Go.Proofs.Ytjobjielgiojhaa.PAll
