-- Made by pack.py of the texts that the law reaches.
import Derived.ChangeArms
import Derived.ChangeSame
import Derived.DataReads
import Derived.Deep.Strs
import Derived.Lib.SmallJoins
import Derived.Test.YtgoiifpimpnlpaaV4
section
namespace Go.Proofs.Ytgoiifpimpnlpaa.PAll
open Go.RowKit Go.Proofs.YtgoiifpimpnlpaaW.PrintWords Go.Proofs.YtgoiifpimpnlpaaW.PrintLast Go.Proofs.YtgoiifpimpnlpaaW.PrintMore
attribute [local go_sem] max2_int min2_int max_two min_two max_three min_three max_four min_four   -- for this text's walks alone
set_option linter.unusedVariables false
set_option linter.unusedSimpArgs false
def laws_heldFrameS.l0 : Nat → List (S147) → Int → Int → Option (Int)
  | 0, _, _, _ => none
  | k + 1, x0, x1, x5 => if x5 < (x0.length : Int) then (if 0 ≤ x5 then (if ((rd_T147 x0 x5).f0) = x1 then (if ((rd_T147 x0 x5).f1) = (wrap64 (x1 + 1)) then (if ((rd_T147 x0 x5).f2) = (wrap64 ((wrap64 (x1 + 1)) + 1)) then (if ((rd_T147 x0 x5).f3) = (wrap64 ((wrap64 ((wrap64 (x1 + 1)) + 1)) + 1)) then (laws_heldFrameS.l0 k x0 (wrap64 ((wrap64 ((wrap64 ((wrap64 (x1 + 1)) + 1)) + 1)) + 1)) (wrap64 (x5 + 1))) else (some (-1))) else (some (-1))) else (some (-1))) else (some (-1))) else (none)) else (some x1)
def laws_heldFrameS.f (k : Nat) (l0 : List (S147)) (a1 : Int) : Option (Int) := laws_heldFrameS.l0 k l0 a1 0
set_option maxHeartbeats 8000000 in
set_option maxRecDepth 100000 in
theorem laws_heldFrameS.calls (k : Nat) (A0 : Option Addr) (c0 : Nat) (l0 : List (S147)) (a1 : Int) (r : Int) (w : World) (hr0 : Kd.C k147 w A0 l0.length l0) (hc0 : l0.length ≤ c0) (h : laws_heldFrameS.f k l0 a1 = some r) :
    Calls Try.prog 86 #[.slice A0 l0.length c0, .int .i64 a1] w fun e w' => e = .returned (.int .i64 r) ∧ Drawn0 w w' := by
  have HR0 := ab_ hr0
  have HC0 := ab_ hc0
  clear hr0 hc0
  have H : (laws_heldFrameS.l0 k l0 a1 0) = some r := h
  clear h
  have H' := ab_ H
  clear H
  go_enter Try.func86, Try.ntmps86
  go_wp2
  go_loopg [1, 5] k (fun kq v1 v5 w' => ∃ (x1_1 : Int) (x5_1 : Int), v1 = .int .i64 x1_1 ∧ v5 = .int .i64 x5_1 ∧ Aside0 (laws_heldFrameS.l0 kq l0 x1_1 x5_1 = some r) ∧ Aside0 (kq ≤ k) ∧ Drawn0 w w')
  case atStart => exact ⟨(a1), (0), (by first | rfl | (simp; done) | (simp [*]; done)), (by first | rfl | (simp; done) | (simp [*]; done)), H', ⟨Nat.le_refl _⟩, by repeat (first | exact Drawn0.refl _ | apply Drawn0.step)⟩
  case round =>
    clear H'
    try clear p2
    obtain ⟨x1_1, x5_1, rfl, rfl, HA, HK1, ⟨m1, rfl⟩⟩ := hrel
    cases gk with
    | zero => exact absurd HA.out (by simp [laws_heldFrameS.l0])
    | succ k1 =>
      have H := HA.out
      clear HA
      simp only [laws_heldFrameS.l0] at H
      by_cases c3 : x5_1 < (l0.length : Int)
      · rw [if_pos c3] at H
        have c3b0 : decide (x5_1 < (l0.length : Int)) = true := an_ c3
        clear c3
        by_cases c4 : 0 ≤ x5_1
        · rw [if_pos c4] at H
          have c4b0 : decide (0 ≤ x5_1) = true := an_ c4
          clear c4
          by_cases c5 : ((rd_T147 l0 x5_1).f0) = x1_1
          · rw [if_pos c5] at H
            have c5b0 : (((rd_T147 l0 x5_1).f0) == x1_1) = true := beq_iff_eq.mpr c5
            have c5b1 : (((rd_T147 l0 x5_1).f0) != x1_1) = false := bne_eq_false_iff_eq.mpr c5
            clear c5
            by_cases c6 : ((rd_T147 l0 x5_1).f1) = (wrap64 (x1_1 + 1))
            · rw [if_pos c6] at H
              have c6b0 : (((rd_T147 l0 x5_1).f1) == (wrap64 (x1_1 + 1))) = true := beq_iff_eq.mpr c6
              have c6b1 : (((rd_T147 l0 x5_1).f1) != (wrap64 (x1_1 + 1))) = false := bne_eq_false_iff_eq.mpr c6
              clear c6
              by_cases c7 : ((rd_T147 l0 x5_1).f2) = (wrap64 ((wrap64 (x1_1 + 1)) + 1))
              · rw [if_pos c7] at H
                have c7b0 : (((rd_T147 l0 x5_1).f2) == (wrap64 ((wrap64 (x1_1 + 1)) + 1))) = true := beq_iff_eq.mpr c7
                have c7b1 : (((rd_T147 l0 x5_1).f2) != (wrap64 ((wrap64 (x1_1 + 1)) + 1))) = false := bne_eq_false_iff_eq.mpr c7
                clear c7
                by_cases c8 : ((rd_T147 l0 x5_1).f3) = (wrap64 ((wrap64 ((wrap64 (x1_1 + 1)) + 1)) + 1))
                · rw [if_pos c8] at H
                  have c8b0 : (((rd_T147 l0 x5_1).f3) == (wrap64 ((wrap64 ((wrap64 (x1_1 + 1)) + 1)) + 1))) = true := beq_iff_eq.mpr c8
                  have c8b1 : (((rd_T147 l0 x5_1).f3) != (wrap64 ((wrap64 ((wrap64 (x1_1 + 1)) + 1)) + 1))) = false := bne_eq_false_iff_eq.mpr c8
                  clear c8
                  have H' := ab_ H
                  clear H
                  have p996 : 0 ≤ (x5_1 : Int) := of_decide_eq_true (by first | (with_reducible assumption) | assumption)
                  have q996 : x5_1 < (l0.length : Int) := of_decide_eq_true (by first | (with_reducible assumption) | assumption)
                  obtain ⟨ad996, e996, hx996_0, hx996_1, hx996_2, hx996_3⟩ := at_T147 HR0.out x5_1 p996 q996
                  cases e996
                  replace p996 := eq_true p996
                  replace q996 := eq_true q996
                  have p997 : 0 ≤ (x5_1 : Int) := of_decide_eq_true (by first | (with_reducible assumption) | assumption)
                  have q997 : x5_1 < (l0.length : Int) := of_decide_eq_true (by first | (with_reducible assumption) | assumption)
                  obtain ⟨ad997, e997, hx997_0, hx997_1, hx997_2, hx997_3⟩ := at_T147 HR0.out x5_1 p997 q997
                  obtain rfl : ad996 = ad997 := (by injection e997)
                  replace p997 := eq_true p997
                  replace q997 := eq_true q997
                  have p998 : 0 ≤ (x5_1 : Int) := of_decide_eq_true (by first | (with_reducible assumption) | assumption)
                  have q998 : x5_1 < (l0.length : Int) := of_decide_eq_true (by first | (with_reducible assumption) | assumption)
                  obtain ⟨ad998, e998, hx998_0, hx998_1, hx998_2, hx998_3⟩ := at_T147 HR0.out x5_1 p998 q998
                  obtain rfl : ad996 = ad998 := (by injection e998)
                  replace p998 := eq_true p998
                  replace q998 := eq_true q998
                  have p999 : 0 ≤ (x5_1 : Int) := of_decide_eq_true (by first | (with_reducible assumption) | assumption)
                  have q999 : x5_1 < (l0.length : Int) := of_decide_eq_true (by first | (with_reducible assumption) | assumption)
                  obtain ⟨ad999, e999, hx999_0, hx999_1, hx999_2, hx999_3⟩ := at_T147 HR0.out x5_1 p999 q999
                  obtain rfl : ad996 = ad999 := (by injection e999)
                  replace p999 := eq_true p999
                  replace q999 := eq_true q999
                  go_wp2
                  go_roundg k1
                  case measure => have := HK1.out; omega
                  case rel => exact ⟨(wrap64 ((wrap64 ((wrap64 ((wrap64 (x1_1 + 1)) + 1)) + 1)) + 1)), (wrap64 (x5_1 + 1)), (by first | rfl | (simp; done) | (simp [*]; done)), (by first | rfl | (simp; done) | (simp [*]; done)), H', ⟨by have := HK1.out; omega⟩, by repeat (first | exact Drawn0.refl _ | apply Drawn0.step)⟩
                · rw [if_neg c8] at H
                  have c8b0 : (((rd_T147 l0 x5_1).f3) == (wrap64 ((wrap64 ((wrap64 (x1_1 + 1)) + 1)) + 1))) = false := beq_eq_false_iff_ne.mpr c8
                  have c8b1 : (((rd_T147 l0 x5_1).f3) != (wrap64 ((wrap64 ((wrap64 (x1_1 + 1)) + 1)) + 1))) = true := bne_iff_ne.mpr c8
                  obtain rfl := Option.some.inj H
                  have p996 : 0 ≤ (x5_1 : Int) := of_decide_eq_true (by first | (with_reducible assumption) | assumption)
                  have q996 : x5_1 < (l0.length : Int) := of_decide_eq_true (by first | (with_reducible assumption) | assumption)
                  obtain ⟨ad996, e996, hx996_0, hx996_1, hx996_2, hx996_3⟩ := at_T147 HR0.out x5_1 p996 q996
                  cases e996
                  replace p996 := eq_true p996
                  replace q996 := eq_true q996
                  have p997 : 0 ≤ (x5_1 : Int) := of_decide_eq_true (by first | (with_reducible assumption) | assumption)
                  have q997 : x5_1 < (l0.length : Int) := of_decide_eq_true (by first | (with_reducible assumption) | assumption)
                  obtain ⟨ad997, e997, hx997_0, hx997_1, hx997_2, hx997_3⟩ := at_T147 HR0.out x5_1 p997 q997
                  obtain rfl : ad996 = ad997 := (by injection e997)
                  replace p997 := eq_true p997
                  replace q997 := eq_true q997
                  have p998 : 0 ≤ (x5_1 : Int) := of_decide_eq_true (by first | (with_reducible assumption) | assumption)
                  have q998 : x5_1 < (l0.length : Int) := of_decide_eq_true (by first | (with_reducible assumption) | assumption)
                  obtain ⟨ad998, e998, hx998_0, hx998_1, hx998_2, hx998_3⟩ := at_T147 HR0.out x5_1 p998 q998
                  obtain rfl : ad996 = ad998 := (by injection e998)
                  replace p998 := eq_true p998
                  replace q998 := eq_true q998
                  have p999 : 0 ≤ (x5_1 : Int) := of_decide_eq_true (by first | (with_reducible assumption) | assumption)
                  have q999 : x5_1 < (l0.length : Int) := of_decide_eq_true (by first | (with_reducible assumption) | assumption)
                  obtain ⟨ad999, e999, hx999_0, hx999_1, hx999_2, hx999_3⟩ := at_T147 HR0.out x5_1 p999 q999
                  obtain rfl : ad996 = ad999 := (by injection e999)
                  replace p999 := eq_true p999
                  replace q999 := eq_true q999
                  go_wp2
                  go_ret
                  exact ⟨by first | rfl | (simp; done) | (simp [*]; done), by repeat (first | exact Drawn0.refl _ | apply Drawn0.step)⟩
              · rw [if_neg c7] at H
                have c7b0 : (((rd_T147 l0 x5_1).f2) == (wrap64 ((wrap64 (x1_1 + 1)) + 1))) = false := beq_eq_false_iff_ne.mpr c7
                have c7b1 : (((rd_T147 l0 x5_1).f2) != (wrap64 ((wrap64 (x1_1 + 1)) + 1))) = true := bne_iff_ne.mpr c7
                obtain rfl := Option.some.inj H
                have p996 : 0 ≤ (x5_1 : Int) := of_decide_eq_true (by first | (with_reducible assumption) | assumption)
                have q996 : x5_1 < (l0.length : Int) := of_decide_eq_true (by first | (with_reducible assumption) | assumption)
                obtain ⟨ad996, e996, hx996_0, hx996_1, hx996_2, hx996_3⟩ := at_T147 HR0.out x5_1 p996 q996
                cases e996
                replace p996 := eq_true p996
                replace q996 := eq_true q996
                have p997 : 0 ≤ (x5_1 : Int) := of_decide_eq_true (by first | (with_reducible assumption) | assumption)
                have q997 : x5_1 < (l0.length : Int) := of_decide_eq_true (by first | (with_reducible assumption) | assumption)
                obtain ⟨ad997, e997, hx997_0, hx997_1, hx997_2, hx997_3⟩ := at_T147 HR0.out x5_1 p997 q997
                obtain rfl : ad996 = ad997 := (by injection e997)
                replace p997 := eq_true p997
                replace q997 := eq_true q997
                have p998 : 0 ≤ (x5_1 : Int) := of_decide_eq_true (by first | (with_reducible assumption) | assumption)
                have q998 : x5_1 < (l0.length : Int) := of_decide_eq_true (by first | (with_reducible assumption) | assumption)
                obtain ⟨ad998, e998, hx998_0, hx998_1, hx998_2, hx998_3⟩ := at_T147 HR0.out x5_1 p998 q998
                obtain rfl : ad996 = ad998 := (by injection e998)
                replace p998 := eq_true p998
                replace q998 := eq_true q998
                go_wp2
                go_ret
                exact ⟨by first | rfl | (simp; done) | (simp [*]; done), by repeat (first | exact Drawn0.refl _ | apply Drawn0.step)⟩
            · rw [if_neg c6] at H
              have c6b0 : (((rd_T147 l0 x5_1).f1) == (wrap64 (x1_1 + 1))) = false := beq_eq_false_iff_ne.mpr c6
              have c6b1 : (((rd_T147 l0 x5_1).f1) != (wrap64 (x1_1 + 1))) = true := bne_iff_ne.mpr c6
              obtain rfl := Option.some.inj H
              have p996 : 0 ≤ (x5_1 : Int) := of_decide_eq_true (by first | (with_reducible assumption) | assumption)
              have q996 : x5_1 < (l0.length : Int) := of_decide_eq_true (by first | (with_reducible assumption) | assumption)
              obtain ⟨ad996, e996, hx996_0, hx996_1, hx996_2, hx996_3⟩ := at_T147 HR0.out x5_1 p996 q996
              cases e996
              replace p996 := eq_true p996
              replace q996 := eq_true q996
              have p997 : 0 ≤ (x5_1 : Int) := of_decide_eq_true (by first | (with_reducible assumption) | assumption)
              have q997 : x5_1 < (l0.length : Int) := of_decide_eq_true (by first | (with_reducible assumption) | assumption)
              obtain ⟨ad997, e997, hx997_0, hx997_1, hx997_2, hx997_3⟩ := at_T147 HR0.out x5_1 p997 q997
              obtain rfl : ad996 = ad997 := (by injection e997)
              replace p997 := eq_true p997
              replace q997 := eq_true q997
              go_wp2
              go_ret
              exact ⟨by first | rfl | (simp; done) | (simp [*]; done), by repeat (first | exact Drawn0.refl _ | apply Drawn0.step)⟩
          · rw [if_neg c5] at H
            have c5b0 : (((rd_T147 l0 x5_1).f0) == x1_1) = false := beq_eq_false_iff_ne.mpr c5
            have c5b1 : (((rd_T147 l0 x5_1).f0) != x1_1) = true := bne_iff_ne.mpr c5
            obtain rfl := Option.some.inj H
            have p996 : 0 ≤ (x5_1 : Int) := of_decide_eq_true (by first | (with_reducible assumption) | assumption)
            have q996 : x5_1 < (l0.length : Int) := of_decide_eq_true (by first | (with_reducible assumption) | assumption)
            obtain ⟨ad996, e996, hx996_0, hx996_1, hx996_2, hx996_3⟩ := at_T147 HR0.out x5_1 p996 q996
            cases e996
            replace p996 := eq_true p996
            replace q996 := eq_true q996
            go_wp2
            go_ret
            exact ⟨by first | rfl | (simp; done) | (simp [*]; done), by repeat (first | exact Drawn0.refl _ | apply Drawn0.step)⟩
        · rw [if_neg c4] at H
          exact absurd H (by simp)
      · rw [if_neg c3] at H
        have c3b0 : decide (x5_1 < (l0.length : Int)) = false := decide_eq_false c3
        clear c3
        obtain rfl := Option.some.inj H
        go_wp2
        go_ret
        exact ⟨by first | rfl | (simp; done) | (simp [*]; done), by repeat (first | exact Drawn0.refl _ | apply Drawn0.step)⟩
end Go.Proofs.Ytgoiifpimpnlpaa.PAll

end

section
namespace Go.Proofs.Ytgoiifpimpnlpaa.PAll
open Go.RowKit Go.Proofs.YtgoiifpimpnlpaaW.PrintWords Go.Proofs.YtgoiifpimpnlpaaW.PrintLast Go.Proofs.YtgoiifpimpnlpaaW.PrintMore
attribute [local go_sem] max2_int min2_int max_two min_two max_three min_three max_four min_four   -- for this text's walks alone
set_option linter.unusedVariables false
set_option linter.unusedSimpArgs false
def laws_heldValS.l0 : Nat → List (S150) → Int → Int → Option (Int)
  | 0, _, _, _ => none
  | k + 1, x0, x1, x5 => if x5 < (x0.length : Int) then (if 0 ≤ x5 then (if (((rd_T150 x0 x5).f0) != ((Int.tmod x1 3) == 0)) = true then (some (-1)) else (if ((rd_T150 x0 x5).f1) = (wrap64 (x1 + 1)) then (if ((rd_T150 x0 x5).f2) = (wrap64 ((wrap64 (x1 + 1)) + 1)) then (if ((rd_T150 x0 x5).f3) = (wrap64 ((wrap64 ((wrap64 (x1 + 1)) + 1)) + 1)) then (laws_heldValS.l0 k x0 (wrap64 ((wrap64 ((wrap64 ((wrap64 (x1 + 1)) + 1)) + 1)) + 1)) (wrap64 (x5 + 1))) else (some (-1))) else (some (-1))) else (some (-1)))) else (none)) else (some x1)
def laws_heldValS.f (k : Nat) (l0 : List (S150)) (a1 : Int) : Option (Int) := laws_heldValS.l0 k l0 a1 0
set_option maxHeartbeats 8000000 in
set_option maxRecDepth 100000 in
theorem laws_heldValS.calls (k : Nat) (A0 : Option Addr) (c0 : Nat) (l0 : List (S150)) (a1 : Int) (r : Int) (w : World) (hr0 : Kd.C k150 w A0 l0.length l0) (hc0 : l0.length ≤ c0) (h : laws_heldValS.f k l0 a1 = some r) :
    Calls Try.prog 87 #[.slice A0 l0.length c0, .int .i64 a1] w fun e w' => e = .returned (.int .i64 r) ∧ Drawn0 w w' := by
  have HR0 := ab_ hr0
  have HC0 := ab_ hc0
  clear hr0 hc0
  have H : (laws_heldValS.l0 k l0 a1 0) = some r := h
  clear h
  have H' := ab_ H
  clear H
  go_enter Try.func87, Try.ntmps87
  go_wp2
  go_loopg [1, 5] k (fun kq v1 v5 w' => ∃ (x1_1 : Int) (x5_1 : Int), v1 = .int .i64 x1_1 ∧ v5 = .int .i64 x5_1 ∧ Aside0 (laws_heldValS.l0 kq l0 x1_1 x5_1 = some r) ∧ Aside0 (kq ≤ k) ∧ Drawn0 w w')
  case atStart => exact ⟨(a1), (0), (by first | rfl | (simp; done) | (simp [*]; done)), (by first | rfl | (simp; done) | (simp [*]; done)), H', ⟨Nat.le_refl _⟩, by repeat (first | exact Drawn0.refl _ | apply Drawn0.step)⟩
  case round =>
    clear H'
    try clear p2
    obtain ⟨x1_1, x5_1, rfl, rfl, HA, HK1, ⟨m1, rfl⟩⟩ := hrel
    cases gk with
    | zero => exact absurd HA.out (by simp [laws_heldValS.l0])
    | succ k1 =>
      have H := HA.out
      clear HA
      simp only [laws_heldValS.l0] at H
      by_cases c3 : x5_1 < (l0.length : Int)
      · rw [if_pos c3] at H
        have c3b0 : decide (x5_1 < (l0.length : Int)) = true := an_ c3
        clear c3
        by_cases c4 : 0 ≤ x5_1
        · rw [if_pos c4] at H
          have c4b0 : decide (0 ≤ x5_1) = true := an_ c4
          clear c4
          by_cases c5 : (((rd_T150 l0 x5_1).f0) != ((Int.tmod x1_1 3) == 0)) = true
          · rw [if_pos c5] at H
            have c5b0 : (((rd_T150 l0 x5_1).f0) != ((Int.tmod x1_1 3) == 0)) = true := c5
            (try (have c5b1 : decide (((rd_T150 l0 x5_1).f0) = ((Int.tmod x1_1 3) == 0)) = false := by simpa using c5))
            (try (have c5b2 : (((rd_T150 l0 x5_1).f0) == ((Int.tmod x1_1 3) == 0)) = false := by simpa using c5))
            (try (have c5b3 : ¬ (((rd_T150 l0 x5_1).f0) = ((Int.tmod x1_1 3) == 0)) := by simpa using c5))
            clear c5
            obtain rfl := Option.some.inj H
            have p1000 : 0 ≤ (x5_1 : Int) := of_decide_eq_true (by first | (with_reducible assumption) | assumption)
            have q1000 : x5_1 < (l0.length : Int) := of_decide_eq_true (by first | (with_reducible assumption) | assumption)
            obtain ⟨ad1000, e1000, hx1000_0, hx1000_1, hx1000_2, hx1000_3⟩ := at_T150 HR0.out x5_1 p1000 q1000
            cases e1000
            replace p1000 := eq_true p1000
            replace q1000 := eq_true q1000
            go_wp2
            go_ret
            exact ⟨by first | rfl | (simp; done) | (simp [*]; done), by repeat (first | exact Drawn0.refl _ | apply Drawn0.step)⟩
          · rw [if_neg c5] at H
            have c5b0 : (((rd_T150 l0 x5_1).f0) != ((Int.tmod x1_1 3) == 0)) = false := by simpa using c5
            (try (have c5b1 : decide (((rd_T150 l0 x5_1).f0) = ((Int.tmod x1_1 3) == 0)) = true := by simpa using c5))
            (try (have c5b2 : (((rd_T150 l0 x5_1).f0) == ((Int.tmod x1_1 3) == 0)) = true := by simpa using c5))
            clear c5
            by_cases c6 : ((rd_T150 l0 x5_1).f1) = (wrap64 (x1_1 + 1))
            · rw [if_pos c6] at H
              have c6b0 : (((rd_T150 l0 x5_1).f1) == (wrap64 (x1_1 + 1))) = true := beq_iff_eq.mpr c6
              have c6b1 : (((rd_T150 l0 x5_1).f1) != (wrap64 (x1_1 + 1))) = false := bne_eq_false_iff_eq.mpr c6
              clear c6
              by_cases c7 : ((rd_T150 l0 x5_1).f2) = (wrap64 ((wrap64 (x1_1 + 1)) + 1))
              · rw [if_pos c7] at H
                have c7b0 : (((rd_T150 l0 x5_1).f2) == (wrap64 ((wrap64 (x1_1 + 1)) + 1))) = true := beq_iff_eq.mpr c7
                have c7b1 : (((rd_T150 l0 x5_1).f2) != (wrap64 ((wrap64 (x1_1 + 1)) + 1))) = false := bne_eq_false_iff_eq.mpr c7
                clear c7
                by_cases c8 : ((rd_T150 l0 x5_1).f3) = (wrap64 ((wrap64 ((wrap64 (x1_1 + 1)) + 1)) + 1))
                · rw [if_pos c8] at H
                  have c8b0 : (((rd_T150 l0 x5_1).f3) == (wrap64 ((wrap64 ((wrap64 (x1_1 + 1)) + 1)) + 1))) = true := beq_iff_eq.mpr c8
                  have c8b1 : (((rd_T150 l0 x5_1).f3) != (wrap64 ((wrap64 ((wrap64 (x1_1 + 1)) + 1)) + 1))) = false := bne_eq_false_iff_eq.mpr c8
                  clear c8
                  have H' := ab_ H
                  clear H
                  have p1000 : 0 ≤ (x5_1 : Int) := of_decide_eq_true (by first | (with_reducible assumption) | assumption)
                  have q1000 : x5_1 < (l0.length : Int) := of_decide_eq_true (by first | (with_reducible assumption) | assumption)
                  obtain ⟨ad1000, e1000, hx1000_0, hx1000_1, hx1000_2, hx1000_3⟩ := at_T150 HR0.out x5_1 p1000 q1000
                  cases e1000
                  replace p1000 := eq_true p1000
                  replace q1000 := eq_true q1000
                  have p1001 : 0 ≤ (x5_1 : Int) := of_decide_eq_true (by first | (with_reducible assumption) | assumption)
                  have q1001 : x5_1 < (l0.length : Int) := of_decide_eq_true (by first | (with_reducible assumption) | assumption)
                  obtain ⟨ad1001, e1001, hx1001_0, hx1001_1, hx1001_2, hx1001_3⟩ := at_T150 HR0.out x5_1 p1001 q1001
                  obtain rfl : ad1000 = ad1001 := (by injection e1001)
                  replace p1001 := eq_true p1001
                  replace q1001 := eq_true q1001
                  have p1002 : 0 ≤ (x5_1 : Int) := of_decide_eq_true (by first | (with_reducible assumption) | assumption)
                  have q1002 : x5_1 < (l0.length : Int) := of_decide_eq_true (by first | (with_reducible assumption) | assumption)
                  obtain ⟨ad1002, e1002, hx1002_0, hx1002_1, hx1002_2, hx1002_3⟩ := at_T150 HR0.out x5_1 p1002 q1002
                  obtain rfl : ad1000 = ad1002 := (by injection e1002)
                  replace p1002 := eq_true p1002
                  replace q1002 := eq_true q1002
                  have p1003 : 0 ≤ (x5_1 : Int) := of_decide_eq_true (by first | (with_reducible assumption) | assumption)
                  have q1003 : x5_1 < (l0.length : Int) := of_decide_eq_true (by first | (with_reducible assumption) | assumption)
                  obtain ⟨ad1003, e1003, hx1003_0, hx1003_1, hx1003_2, hx1003_3⟩ := at_T150 HR0.out x5_1 p1003 q1003
                  obtain rfl : ad1000 = ad1003 := (by injection e1003)
                  replace p1003 := eq_true p1003
                  replace q1003 := eq_true q1003
                  go_wp2
                  go_roundg k1
                  case measure => have := HK1.out; omega
                  case rel => exact ⟨(wrap64 ((wrap64 ((wrap64 ((wrap64 (x1_1 + 1)) + 1)) + 1)) + 1)), (wrap64 (x5_1 + 1)), (by first | rfl | (simp; done) | (simp [*]; done)), (by first | rfl | (simp; done) | (simp [*]; done)), H', ⟨by have := HK1.out; omega⟩, by repeat (first | exact Drawn0.refl _ | apply Drawn0.step)⟩
                · rw [if_neg c8] at H
                  have c8b0 : (((rd_T150 l0 x5_1).f3) == (wrap64 ((wrap64 ((wrap64 (x1_1 + 1)) + 1)) + 1))) = false := beq_eq_false_iff_ne.mpr c8
                  have c8b1 : (((rd_T150 l0 x5_1).f3) != (wrap64 ((wrap64 ((wrap64 (x1_1 + 1)) + 1)) + 1))) = true := bne_iff_ne.mpr c8
                  obtain rfl := Option.some.inj H
                  have p1000 : 0 ≤ (x5_1 : Int) := of_decide_eq_true (by first | (with_reducible assumption) | assumption)
                  have q1000 : x5_1 < (l0.length : Int) := of_decide_eq_true (by first | (with_reducible assumption) | assumption)
                  obtain ⟨ad1000, e1000, hx1000_0, hx1000_1, hx1000_2, hx1000_3⟩ := at_T150 HR0.out x5_1 p1000 q1000
                  cases e1000
                  replace p1000 := eq_true p1000
                  replace q1000 := eq_true q1000
                  have p1001 : 0 ≤ (x5_1 : Int) := of_decide_eq_true (by first | (with_reducible assumption) | assumption)
                  have q1001 : x5_1 < (l0.length : Int) := of_decide_eq_true (by first | (with_reducible assumption) | assumption)
                  obtain ⟨ad1001, e1001, hx1001_0, hx1001_1, hx1001_2, hx1001_3⟩ := at_T150 HR0.out x5_1 p1001 q1001
                  obtain rfl : ad1000 = ad1001 := (by injection e1001)
                  replace p1001 := eq_true p1001
                  replace q1001 := eq_true q1001
                  have p1002 : 0 ≤ (x5_1 : Int) := of_decide_eq_true (by first | (with_reducible assumption) | assumption)
                  have q1002 : x5_1 < (l0.length : Int) := of_decide_eq_true (by first | (with_reducible assumption) | assumption)
                  obtain ⟨ad1002, e1002, hx1002_0, hx1002_1, hx1002_2, hx1002_3⟩ := at_T150 HR0.out x5_1 p1002 q1002
                  obtain rfl : ad1000 = ad1002 := (by injection e1002)
                  replace p1002 := eq_true p1002
                  replace q1002 := eq_true q1002
                  have p1003 : 0 ≤ (x5_1 : Int) := of_decide_eq_true (by first | (with_reducible assumption) | assumption)
                  have q1003 : x5_1 < (l0.length : Int) := of_decide_eq_true (by first | (with_reducible assumption) | assumption)
                  obtain ⟨ad1003, e1003, hx1003_0, hx1003_1, hx1003_2, hx1003_3⟩ := at_T150 HR0.out x5_1 p1003 q1003
                  obtain rfl : ad1000 = ad1003 := (by injection e1003)
                  replace p1003 := eq_true p1003
                  replace q1003 := eq_true q1003
                  go_wp2
                  go_ret
                  exact ⟨by first | rfl | (simp; done) | (simp [*]; done), by repeat (first | exact Drawn0.refl _ | apply Drawn0.step)⟩
              · rw [if_neg c7] at H
                have c7b0 : (((rd_T150 l0 x5_1).f2) == (wrap64 ((wrap64 (x1_1 + 1)) + 1))) = false := beq_eq_false_iff_ne.mpr c7
                have c7b1 : (((rd_T150 l0 x5_1).f2) != (wrap64 ((wrap64 (x1_1 + 1)) + 1))) = true := bne_iff_ne.mpr c7
                obtain rfl := Option.some.inj H
                have p1000 : 0 ≤ (x5_1 : Int) := of_decide_eq_true (by first | (with_reducible assumption) | assumption)
                have q1000 : x5_1 < (l0.length : Int) := of_decide_eq_true (by first | (with_reducible assumption) | assumption)
                obtain ⟨ad1000, e1000, hx1000_0, hx1000_1, hx1000_2, hx1000_3⟩ := at_T150 HR0.out x5_1 p1000 q1000
                cases e1000
                replace p1000 := eq_true p1000
                replace q1000 := eq_true q1000
                have p1001 : 0 ≤ (x5_1 : Int) := of_decide_eq_true (by first | (with_reducible assumption) | assumption)
                have q1001 : x5_1 < (l0.length : Int) := of_decide_eq_true (by first | (with_reducible assumption) | assumption)
                obtain ⟨ad1001, e1001, hx1001_0, hx1001_1, hx1001_2, hx1001_3⟩ := at_T150 HR0.out x5_1 p1001 q1001
                obtain rfl : ad1000 = ad1001 := (by injection e1001)
                replace p1001 := eq_true p1001
                replace q1001 := eq_true q1001
                have p1002 : 0 ≤ (x5_1 : Int) := of_decide_eq_true (by first | (with_reducible assumption) | assumption)
                have q1002 : x5_1 < (l0.length : Int) := of_decide_eq_true (by first | (with_reducible assumption) | assumption)
                obtain ⟨ad1002, e1002, hx1002_0, hx1002_1, hx1002_2, hx1002_3⟩ := at_T150 HR0.out x5_1 p1002 q1002
                obtain rfl : ad1000 = ad1002 := (by injection e1002)
                replace p1002 := eq_true p1002
                replace q1002 := eq_true q1002
                go_wp2
                go_ret
                exact ⟨by first | rfl | (simp; done) | (simp [*]; done), by repeat (first | exact Drawn0.refl _ | apply Drawn0.step)⟩
            · rw [if_neg c6] at H
              have c6b0 : (((rd_T150 l0 x5_1).f1) == (wrap64 (x1_1 + 1))) = false := beq_eq_false_iff_ne.mpr c6
              have c6b1 : (((rd_T150 l0 x5_1).f1) != (wrap64 (x1_1 + 1))) = true := bne_iff_ne.mpr c6
              obtain rfl := Option.some.inj H
              have p1000 : 0 ≤ (x5_1 : Int) := of_decide_eq_true (by first | (with_reducible assumption) | assumption)
              have q1000 : x5_1 < (l0.length : Int) := of_decide_eq_true (by first | (with_reducible assumption) | assumption)
              obtain ⟨ad1000, e1000, hx1000_0, hx1000_1, hx1000_2, hx1000_3⟩ := at_T150 HR0.out x5_1 p1000 q1000
              cases e1000
              replace p1000 := eq_true p1000
              replace q1000 := eq_true q1000
              have p1001 : 0 ≤ (x5_1 : Int) := of_decide_eq_true (by first | (with_reducible assumption) | assumption)
              have q1001 : x5_1 < (l0.length : Int) := of_decide_eq_true (by first | (with_reducible assumption) | assumption)
              obtain ⟨ad1001, e1001, hx1001_0, hx1001_1, hx1001_2, hx1001_3⟩ := at_T150 HR0.out x5_1 p1001 q1001
              obtain rfl : ad1000 = ad1001 := (by injection e1001)
              replace p1001 := eq_true p1001
              replace q1001 := eq_true q1001
              go_wp2
              go_ret
              exact ⟨by first | rfl | (simp; done) | (simp [*]; done), by repeat (first | exact Drawn0.refl _ | apply Drawn0.step)⟩
        · rw [if_neg c4] at H
          exact absurd H (by simp)
      · rw [if_neg c3] at H
        have c3b0 : decide (x5_1 < (l0.length : Int)) = false := decide_eq_false c3
        clear c3
        obtain rfl := Option.some.inj H
        go_wp2
        go_ret
        exact ⟨by first | rfl | (simp; done) | (simp [*]; done), by repeat (first | exact Drawn0.refl _ | apply Drawn0.step)⟩
end Go.Proofs.Ytgoiifpimpnlpaa.PAll

end

section
namespace Go.Proofs.Ytgoiifpimpnlpaa.PAll
open Go.RowKit Go.Proofs.YtgoiifpimpnlpaaW.PrintWords Go.Proofs.YtgoiifpimpnlpaaW.PrintLast Go.Proofs.YtgoiifpimpnlpaaW.PrintMore
attribute [local go_sem] max2_int min2_int max_two min_two max_three min_three max_four min_four   -- for this text's walks alone
set_option linter.unusedVariables false
set_option linter.unusedSimpArgs false
def laws_heldBindS.l0 : Nat → List (S153) → Int → Int → Option (Int)
  | 0, _, _, _ => none
  | k + 1, x0, x1, x5 => if x5 < (x0.length : Int) then (if 0 ≤ x5 then (if ((rd_T153 x0 x5).f0) = x1 then (if ((rd_T153 x0 x5).f1) = (wrap64 (x1 + 1)) then (laws_heldBindS.l0 k x0 (wrap64 ((wrap64 (x1 + 1)) + 1)) (wrap64 (x5 + 1))) else (some (-1))) else (some (-1))) else (none)) else (some x1)
def laws_heldBindS.f (k : Nat) (l0 : List (S153)) (a1 : Int) : Option (Int) := laws_heldBindS.l0 k l0 a1 0
set_option maxHeartbeats 8000000 in
set_option maxRecDepth 100000 in
theorem laws_heldBindS.calls (k : Nat) (A0 : Option Addr) (c0 : Nat) (l0 : List (S153)) (a1 : Int) (r : Int) (w : World) (hr0 : Kd.C k153 w A0 l0.length l0) (hc0 : l0.length ≤ c0) (h : laws_heldBindS.f k l0 a1 = some r) :
    Calls Try.prog 88 #[.slice A0 l0.length c0, .int .i64 a1] w fun e w' => e = .returned (.int .i64 r) ∧ Drawn0 w w' := by
  have HR0 := ab_ hr0
  have HC0 := ab_ hc0
  clear hr0 hc0
  have H : (laws_heldBindS.l0 k l0 a1 0) = some r := h
  clear h
  have H' := ab_ H
  clear H
  go_enter Try.func88, Try.ntmps88
  go_wp2
  go_loopg [1, 5] k (fun kq v1 v5 w' => ∃ (x1_1 : Int) (x5_1 : Int), v1 = .int .i64 x1_1 ∧ v5 = .int .i64 x5_1 ∧ Aside0 (laws_heldBindS.l0 kq l0 x1_1 x5_1 = some r) ∧ Aside0 (kq ≤ k) ∧ Drawn0 w w')
  case atStart => exact ⟨(a1), (0), (by first | rfl | (simp; done) | (simp [*]; done)), (by first | rfl | (simp; done) | (simp [*]; done)), H', ⟨Nat.le_refl _⟩, by repeat (first | exact Drawn0.refl _ | apply Drawn0.step)⟩
  case round =>
    clear H'
    try clear p2
    obtain ⟨x1_1, x5_1, rfl, rfl, HA, HK1, ⟨m1, rfl⟩⟩ := hrel
    cases gk with
    | zero => exact absurd HA.out (by simp [laws_heldBindS.l0])
    | succ k1 =>
      have H := HA.out
      clear HA
      simp only [laws_heldBindS.l0] at H
      by_cases c3 : x5_1 < (l0.length : Int)
      · rw [if_pos c3] at H
        have c3b0 : decide (x5_1 < (l0.length : Int)) = true := an_ c3
        clear c3
        by_cases c4 : 0 ≤ x5_1
        · rw [if_pos c4] at H
          have c4b0 : decide (0 ≤ x5_1) = true := an_ c4
          clear c4
          by_cases c5 : ((rd_T153 l0 x5_1).f0) = x1_1
          · rw [if_pos c5] at H
            have c5b0 : (((rd_T153 l0 x5_1).f0) == x1_1) = true := beq_iff_eq.mpr c5
            have c5b1 : (((rd_T153 l0 x5_1).f0) != x1_1) = false := bne_eq_false_iff_eq.mpr c5
            clear c5
            by_cases c6 : ((rd_T153 l0 x5_1).f1) = (wrap64 (x1_1 + 1))
            · rw [if_pos c6] at H
              have c6b0 : (((rd_T153 l0 x5_1).f1) == (wrap64 (x1_1 + 1))) = true := beq_iff_eq.mpr c6
              have c6b1 : (((rd_T153 l0 x5_1).f1) != (wrap64 (x1_1 + 1))) = false := bne_eq_false_iff_eq.mpr c6
              clear c6
              have H' := ab_ H
              clear H
              have p1004 : 0 ≤ (x5_1 : Int) := of_decide_eq_true (by first | (with_reducible assumption) | assumption)
              have q1004 : x5_1 < (l0.length : Int) := of_decide_eq_true (by first | (with_reducible assumption) | assumption)
              obtain ⟨ad1004, e1004, hx1004_0, hx1004_1⟩ := at_T153 HR0.out x5_1 p1004 q1004
              cases e1004
              replace p1004 := eq_true p1004
              replace q1004 := eq_true q1004
              have p1005 : 0 ≤ (x5_1 : Int) := of_decide_eq_true (by first | (with_reducible assumption) | assumption)
              have q1005 : x5_1 < (l0.length : Int) := of_decide_eq_true (by first | (with_reducible assumption) | assumption)
              obtain ⟨ad1005, e1005, hx1005_0, hx1005_1⟩ := at_T153 HR0.out x5_1 p1005 q1005
              obtain rfl : ad1004 = ad1005 := (by injection e1005)
              replace p1005 := eq_true p1005
              replace q1005 := eq_true q1005
              go_wp2
              go_roundg k1
              case measure => have := HK1.out; omega
              case rel => exact ⟨(wrap64 ((wrap64 (x1_1 + 1)) + 1)), (wrap64 (x5_1 + 1)), (by first | rfl | (simp; done) | (simp [*]; done)), (by first | rfl | (simp; done) | (simp [*]; done)), H', ⟨by have := HK1.out; omega⟩, by repeat (first | exact Drawn0.refl _ | apply Drawn0.step)⟩
            · rw [if_neg c6] at H
              have c6b0 : (((rd_T153 l0 x5_1).f1) == (wrap64 (x1_1 + 1))) = false := beq_eq_false_iff_ne.mpr c6
              have c6b1 : (((rd_T153 l0 x5_1).f1) != (wrap64 (x1_1 + 1))) = true := bne_iff_ne.mpr c6
              obtain rfl := Option.some.inj H
              have p1004 : 0 ≤ (x5_1 : Int) := of_decide_eq_true (by first | (with_reducible assumption) | assumption)
              have q1004 : x5_1 < (l0.length : Int) := of_decide_eq_true (by first | (with_reducible assumption) | assumption)
              obtain ⟨ad1004, e1004, hx1004_0, hx1004_1⟩ := at_T153 HR0.out x5_1 p1004 q1004
              cases e1004
              replace p1004 := eq_true p1004
              replace q1004 := eq_true q1004
              have p1005 : 0 ≤ (x5_1 : Int) := of_decide_eq_true (by first | (with_reducible assumption) | assumption)
              have q1005 : x5_1 < (l0.length : Int) := of_decide_eq_true (by first | (with_reducible assumption) | assumption)
              obtain ⟨ad1005, e1005, hx1005_0, hx1005_1⟩ := at_T153 HR0.out x5_1 p1005 q1005
              obtain rfl : ad1004 = ad1005 := (by injection e1005)
              replace p1005 := eq_true p1005
              replace q1005 := eq_true q1005
              go_wp2
              go_ret
              exact ⟨by first | rfl | (simp; done) | (simp [*]; done), by repeat (first | exact Drawn0.refl _ | apply Drawn0.step)⟩
          · rw [if_neg c5] at H
            have c5b0 : (((rd_T153 l0 x5_1).f0) == x1_1) = false := beq_eq_false_iff_ne.mpr c5
            have c5b1 : (((rd_T153 l0 x5_1).f0) != x1_1) = true := bne_iff_ne.mpr c5
            obtain rfl := Option.some.inj H
            have p1004 : 0 ≤ (x5_1 : Int) := of_decide_eq_true (by first | (with_reducible assumption) | assumption)
            have q1004 : x5_1 < (l0.length : Int) := of_decide_eq_true (by first | (with_reducible assumption) | assumption)
            obtain ⟨ad1004, e1004, hx1004_0, hx1004_1⟩ := at_T153 HR0.out x5_1 p1004 q1004
            cases e1004
            replace p1004 := eq_true p1004
            replace q1004 := eq_true q1004
            go_wp2
            go_ret
            exact ⟨by first | rfl | (simp; done) | (simp [*]; done), by repeat (first | exact Drawn0.refl _ | apply Drawn0.step)⟩
        · rw [if_neg c4] at H
          exact absurd H (by simp)
      · rw [if_neg c3] at H
        have c3b0 : decide (x5_1 < (l0.length : Int)) = false := decide_eq_false c3
        clear c3
        obtain rfl := Option.some.inj H
        go_wp2
        go_ret
        exact ⟨by first | rfl | (simp; done) | (simp [*]; done), by repeat (first | exact Drawn0.refl _ | apply Drawn0.step)⟩
def laws_heldMachine.f (k : Nat) (a0_0 : Bool) (a0_1 : Int) (a0_2 : Int) (a0_3 : Int) (l0_4 : List (S147)) (l0_5 : List (S150)) (l0_6 : List (S153)) (a1 : Int) : Option (Int) := (laws_heldFrameS.f k l0_4 a1).bind fun t1007 => (if t1007 < 0 then (some (-1)) else ((laws_heldValS.f k l0_5 t1007).bind fun t1008 => (if t1008 < 0 then (some (-1)) else ((laws_heldBindS.f k l0_6 t1008).bind fun t1009 => (if t1009 < 0 then (some (-1)) else (some t1009))))))
set_option maxHeartbeats 8000000 in
set_option maxRecDepth 100000 in
theorem laws_heldMachine.calls (k : Nat) (a0_0 : Bool) (a0_1 : Int) (a0_2 : Int) (a0_3 : Int) (A0_4 : Option Addr) (c0_4 : Nat) (l0_4 : List (S147)) (A0_5 : Option Addr) (c0_5 : Nat) (l0_5 : List (S150)) (A0_6 : Option Addr) (c0_6 : Nat) (l0_6 : List (S153)) (a1 : Int) (r : Int) (w : World) (hr0_4 : Kd.C k147 w A0_4 l0_4.length l0_4) (hc0_4 : l0_4.length ≤ c0_4) (hr0_5 : Kd.C k150 w A0_5 l0_5.length l0_5) (hc0_5 : l0_5.length ≤ c0_5) (hr0_6 : Kd.C k153 w A0_6 l0_6.length l0_6) (hc0_6 : l0_6.length ≤ c0_6) (h : laws_heldMachine.f k a0_0 a0_1 a0_2 a0_3 l0_4 l0_5 l0_6 a1 = some r) :
    Calls Try.prog 46 #[.agg #[.bool a0_0, .int .i64 a0_1, .int .i64 a0_2, .int .i64 a0_3, .slice A0_4 l0_4.length c0_4, .slice A0_5 l0_5.length c0_5, .slice A0_6 l0_6.length c0_6], .int .i64 a1] w fun e w' => e = .returned (.int .i64 r) ∧ Below w.heap.size w w' := by
  have hu55 := Try.underlying55
  have HR0_4 := ab_ hr0_4
  have HC0_4 := ab_ hc0_4
  clear hr0_4 hc0_4
  have HR0_5 := ab_ hr0_5
  have HC0_5 := ab_ hc0_5
  clear hr0_5 hc0_5
  have HR0_6 := ab_ hr0_6
  have HC0_6 := ab_ hc0_6
  clear hr0_6 hc0_6
  have HB := ab_ (Below.refl w.heap.size w)
  have H : ((laws_heldFrameS.f k l0_4 a1).bind fun t1007 => (if t1007 < 0 then (some (-1)) else ((laws_heldValS.f k l0_5 t1007).bind fun t1008 => (if t1008 < 0 then (some (-1)) else ((laws_heldBindS.f k l0_6 t1008).bind fun t1009 => (if t1009 < 0 then (some (-1)) else (some t1009))))))) = some r := h
  clear h
  replace H := Option.bind_eq_some_iff.mp H
  obtain ⟨t1007, A30, H⟩ := H
  replace H : (if t1007 < 0 then (some (-1)) else ((laws_heldValS.f k l0_5 t1007).bind fun t1008 => (if t1008 < 0 then (some (-1)) else ((laws_heldBindS.f k l0_6 t1008).bind fun t1009 => (if t1009 < 0 then (some (-1)) else (some t1009)))))) = some r := H
  have A3 := ab_ A30
  clear A30
  by_cases c4 : t1007 < 0
  · rw [if_pos c4] at H
    have c4b0 : decide (t1007 < 0) = true := an_ c4
    clear c4
    obtain rfl := Option.some.inj H
    go_enter Try.func46, Try.ntmps46
    go_wp2_with (first | ((with_reducible refine gate_dst (N := 2) rfl ?_); refine box_event ?hg (N := 2) ?hd (cs := #[.bool a0_0, .int .i64 a0_1, .int .i64 a0_2, .int .i64 a0_3, .slice A0_4 l0_4.length c0_4, .slice A0_5 l0_5.length c0_5, .slice A0_6 l0_6.length c0_6]) (t := 55) ?hr ?_; (case hd => rfl); (case hg => rfl); (case hr => first | (go_simp; done) | (go_simp; rfl)); intro gb1006 hg w5 hbox hb; have n0_ := ab_ (ao_ (by repeat (first | (with_reducible first | exact HB.out | apply ai_ | apply ag_ | apply ah_) | exact HB.out)) hb); have n1_ := ab_ (hbox); have n2_ := ab_ ((by rw [hg]; exact (below_size (by repeat (first | (with_reducible first | exact HB.out | apply ai_ | apply ag_ | apply ah_) | exact HB.out))) : w.heap.size ≤ gb1006)); have n3_ := ab_ ((by rw [hg]; exact (below_size (by repeat (first | (with_reducible first | exact HB.out | apply ai_ | apply ag_ | apply ah_) | exact HB.out))) : w.heap.size ≤ gb1006)); clear HB; have HB := n0_; have BK1006 := n1_; have GW1006 := n2_; have GE1006 := n3_; clear n0_ n1_ n2_ n3_; clear hb hbox hg; have hcz6_0 : w5.cell? ⟨gb1006, 0, none⟩ = some (.bool a0_0) := (am_ BK1006.out 0).trans rfl; have hcz6_1 : w5.cell? ⟨gb1006, 1, none⟩ = some (.int .i64 a0_1) := (am_ BK1006.out 1).trans rfl; have hcz6_2 : w5.cell? ⟨gb1006, 2, none⟩ = some (.int .i64 a0_2) := (am_ BK1006.out 2).trans rfl; have hcz6_3 : w5.cell? ⟨gb1006, 3, none⟩ = some (.int .i64 a0_3) := (am_ BK1006.out 3).trans rfl; have hcz6_4 : w5.cell? ⟨gb1006, 4, none⟩ = some (.slice A0_4 l0_4.length c0_4) := (am_ BK1006.out 4).trans rfl; have hcz6_5 : w5.cell? ⟨gb1006, 5, none⟩ = some (.slice A0_5 l0_5.length c0_5) := (am_ BK1006.out 5).trans rfl; have hcz6_6 : w5.cell? ⟨gb1006, 6, none⟩ = some (.slice A0_6 l0_6.length c0_6) := (am_ BK1006.out 6).trans rfl; have hfz6_0 := al_ BK1006.out 0; have hfz6_1 := al_ BK1006.out 1; have hfz6_2 := al_ BK1006.out 2; have hfz6_3 := al_ BK1006.out 3; have hfz6_4 := al_ BK1006.out 4; have hfz6_5 := al_ BK1006.out 5; have hfz6_6 := al_ BK1006.out 6) | ((with_reducible refine gate_callee (f := 86) rfl ?_); refine goesL_ (some 8) rfl rfl Try.func86 (by kernel_rfl) rfl #[.slice A0_4 l0_4.length c0_4, .int .i64 a1] rfl (by (try simp only [List.map_toArray, List.map_cons, List.map_nil]); first | done | rfl | (simp only [List.length_drop, List.length_take]; rfl)) ?_; (with_reducible refine (laws_heldFrameS.calls k _ _ l0_4 a1 t1007 _ ?side1 ?side2 A3.out).mono ?_); (case side1 => repeat (first | exact (Kd.C_below HR0_4.out HB.out) | (with_reducible refine Kd.C_alloc ?_ _) | (with_reducible refine Kd.C_drewN ?_ _) | (with_reducible refine Kd.C_drew ?_))); (case side2 => exact HC0_4.out); rintro e w' ⟨rfl, ⟨nd, rfl⟩⟩; refine ⟨_, rfl, ?_⟩))
    go_ret
    exact ⟨by first | rfl | (simp [errW_none, errW_some] <;> rfl) | (simp [*, errW_none, errW_some] <;> rfl), by repeat (first | (with_reducible first | exact HB.out | apply ai_ | apply ag_ | apply ah_ | refine af_ ?_ GE1006.out) | exact HB.out)⟩
  · rw [if_neg c4] at H
    have c4b0 : decide (t1007 < 0) = false := decide_eq_false c4
    clear c4
    replace H := Option.bind_eq_some_iff.mp H
    obtain ⟨t1008, A70, H⟩ := H
    replace H : (if t1008 < 0 then (some (-1)) else ((laws_heldBindS.f k l0_6 t1008).bind fun t1009 => (if t1009 < 0 then (some (-1)) else (some t1009)))) = some r := H
    have A7 := ab_ A70
    clear A70
    by_cases c8 : t1008 < 0
    · rw [if_pos c8] at H
      have c8b0 : decide (t1008 < 0) = true := an_ c8
      clear c8
      obtain rfl := Option.some.inj H
      go_enter Try.func46, Try.ntmps46
      go_wp2_with (first | ((with_reducible refine gate_dst (N := 2) rfl ?_); refine box_event ?hg (N := 2) ?hd (cs := #[.bool a0_0, .int .i64 a0_1, .int .i64 a0_2, .int .i64 a0_3, .slice A0_4 l0_4.length c0_4, .slice A0_5 l0_5.length c0_5, .slice A0_6 l0_6.length c0_6]) (t := 55) ?hr ?_; (case hd => rfl); (case hg => rfl); (case hr => first | (go_simp; done) | (go_simp; rfl)); intro gb1006 hg w9 hbox hb; have n0_ := ab_ (ao_ (by repeat (first | (with_reducible first | exact HB.out | apply ai_ | apply ag_ | apply ah_) | exact HB.out)) hb); have n1_ := ab_ (hbox); have n2_ := ab_ ((by rw [hg]; exact (below_size (by repeat (first | (with_reducible first | exact HB.out | apply ai_ | apply ag_ | apply ah_) | exact HB.out))) : w.heap.size ≤ gb1006)); have n3_ := ab_ ((by rw [hg]; exact (below_size (by repeat (first | (with_reducible first | exact HB.out | apply ai_ | apply ag_ | apply ah_) | exact HB.out))) : w.heap.size ≤ gb1006)); clear HB; have HB := n0_; have BK1006 := n1_; have GW1006 := n2_; have GE1006 := n3_; clear n0_ n1_ n2_ n3_; clear hb hbox hg; have hcz10_0 : w9.cell? ⟨gb1006, 0, none⟩ = some (.bool a0_0) := (am_ BK1006.out 0).trans rfl; have hcz10_1 : w9.cell? ⟨gb1006, 1, none⟩ = some (.int .i64 a0_1) := (am_ BK1006.out 1).trans rfl; have hcz10_2 : w9.cell? ⟨gb1006, 2, none⟩ = some (.int .i64 a0_2) := (am_ BK1006.out 2).trans rfl; have hcz10_3 : w9.cell? ⟨gb1006, 3, none⟩ = some (.int .i64 a0_3) := (am_ BK1006.out 3).trans rfl; have hcz10_4 : w9.cell? ⟨gb1006, 4, none⟩ = some (.slice A0_4 l0_4.length c0_4) := (am_ BK1006.out 4).trans rfl; have hcz10_5 : w9.cell? ⟨gb1006, 5, none⟩ = some (.slice A0_5 l0_5.length c0_5) := (am_ BK1006.out 5).trans rfl; have hcz10_6 : w9.cell? ⟨gb1006, 6, none⟩ = some (.slice A0_6 l0_6.length c0_6) := (am_ BK1006.out 6).trans rfl; have hfz10_0 := al_ BK1006.out 0; have hfz10_1 := al_ BK1006.out 1; have hfz10_2 := al_ BK1006.out 2; have hfz10_3 := al_ BK1006.out 3; have hfz10_4 := al_ BK1006.out 4; have hfz10_5 := al_ BK1006.out 5; have hfz10_6 := al_ BK1006.out 6) | ((with_reducible refine gate_callee (f := 86) rfl ?_); refine goesL_ (some 8) rfl rfl Try.func86 (by kernel_rfl) rfl #[.slice A0_4 l0_4.length c0_4, .int .i64 a1] rfl (by (try simp only [List.map_toArray, List.map_cons, List.map_nil]); first | done | rfl | (simp only [List.length_drop, List.length_take]; rfl)) ?_; (with_reducible refine (laws_heldFrameS.calls k _ _ l0_4 a1 t1007 _ ?side1 ?side2 A3.out).mono ?_); (case side1 => repeat (first | exact (Kd.C_below HR0_4.out HB.out) | (with_reducible refine Kd.C_alloc ?_ _) | (with_reducible refine Kd.C_drewN ?_ _) | (with_reducible refine Kd.C_drew ?_))); (case side2 => exact HC0_4.out); rintro e w' ⟨rfl, ⟨nd, rfl⟩⟩; refine ⟨_, rfl, ?_⟩) | ((with_reducible refine gate_callee (f := 87) rfl ?_); refine goesL_ (some 14) rfl rfl Try.func87 (by kernel_rfl) rfl #[.slice A0_5 l0_5.length c0_5, .int .i64 t1007] rfl (by (try simp only [List.map_toArray, List.map_cons, List.map_nil]); first | done | rfl | (simp only [List.length_drop, List.length_take]; rfl)) ?_; (with_reducible refine (laws_heldValS.calls k _ _ l0_5 t1007 t1008 _ ?side1 ?side2 A7.out).mono ?_); (case side1 => repeat (first | exact (Kd.C_below HR0_5.out (by repeat (first | (with_reducible first | exact HB.out | apply ai_ | apply ag_ | apply ah_ | refine af_ ?_ GE1006.out) | exact HB.out))) | (with_reducible refine Kd.C_alloc ?_ _) | (with_reducible refine Kd.C_drewN ?_ _) | (with_reducible refine Kd.C_drew ?_))); (case side2 => exact HC0_5.out); rintro e w' ⟨rfl, ⟨nd, rfl⟩⟩; refine ⟨_, rfl, ?_⟩))
      go_ret
      exact ⟨by first | rfl | (simp [errW_none, errW_some] <;> rfl) | (simp [*, errW_none, errW_some] <;> rfl), by repeat (first | (with_reducible first | exact HB.out | apply ai_ | apply ag_ | apply ah_ | refine af_ ?_ GE1006.out) | exact HB.out)⟩
    · rw [if_neg c8] at H
      have c8b0 : decide (t1008 < 0) = false := decide_eq_false c8
      clear c8
      replace H := Option.bind_eq_some_iff.mp H
      obtain ⟨t1009, A110, H⟩ := H
      replace H : (if t1009 < 0 then (some (-1)) else (some t1009)) = some r := H
      have A11 := ab_ A110
      clear A110
      by_cases c12 : t1009 < 0
      · rw [if_pos c12] at H
        have c12b0 : decide (t1009 < 0) = true := an_ c12
        clear c12
        obtain rfl := Option.some.inj H
        go_enter Try.func46, Try.ntmps46
        go_wp2_with (first | ((with_reducible refine gate_dst (N := 2) rfl ?_); refine box_event ?hg (N := 2) ?hd (cs := #[.bool a0_0, .int .i64 a0_1, .int .i64 a0_2, .int .i64 a0_3, .slice A0_4 l0_4.length c0_4, .slice A0_5 l0_5.length c0_5, .slice A0_6 l0_6.length c0_6]) (t := 55) ?hr ?_; (case hd => rfl); (case hg => rfl); (case hr => first | (go_simp; done) | (go_simp; rfl)); intro gb1006 hg w13 hbox hb; have n0_ := ab_ (ao_ (by repeat (first | (with_reducible first | exact HB.out | apply ai_ | apply ag_ | apply ah_) | exact HB.out)) hb); have n1_ := ab_ (hbox); have n2_ := ab_ ((by rw [hg]; exact (below_size (by repeat (first | (with_reducible first | exact HB.out | apply ai_ | apply ag_ | apply ah_) | exact HB.out))) : w.heap.size ≤ gb1006)); have n3_ := ab_ ((by rw [hg]; exact (below_size (by repeat (first | (with_reducible first | exact HB.out | apply ai_ | apply ag_ | apply ah_) | exact HB.out))) : w.heap.size ≤ gb1006)); clear HB; have HB := n0_; have BK1006 := n1_; have GW1006 := n2_; have GE1006 := n3_; clear n0_ n1_ n2_ n3_; clear hb hbox hg; have hcz14_0 : w13.cell? ⟨gb1006, 0, none⟩ = some (.bool a0_0) := (am_ BK1006.out 0).trans rfl; have hcz14_1 : w13.cell? ⟨gb1006, 1, none⟩ = some (.int .i64 a0_1) := (am_ BK1006.out 1).trans rfl; have hcz14_2 : w13.cell? ⟨gb1006, 2, none⟩ = some (.int .i64 a0_2) := (am_ BK1006.out 2).trans rfl; have hcz14_3 : w13.cell? ⟨gb1006, 3, none⟩ = some (.int .i64 a0_3) := (am_ BK1006.out 3).trans rfl; have hcz14_4 : w13.cell? ⟨gb1006, 4, none⟩ = some (.slice A0_4 l0_4.length c0_4) := (am_ BK1006.out 4).trans rfl; have hcz14_5 : w13.cell? ⟨gb1006, 5, none⟩ = some (.slice A0_5 l0_5.length c0_5) := (am_ BK1006.out 5).trans rfl; have hcz14_6 : w13.cell? ⟨gb1006, 6, none⟩ = some (.slice A0_6 l0_6.length c0_6) := (am_ BK1006.out 6).trans rfl; have hfz14_0 := al_ BK1006.out 0; have hfz14_1 := al_ BK1006.out 1; have hfz14_2 := al_ BK1006.out 2; have hfz14_3 := al_ BK1006.out 3; have hfz14_4 := al_ BK1006.out 4; have hfz14_5 := al_ BK1006.out 5; have hfz14_6 := al_ BK1006.out 6) | ((with_reducible refine gate_callee (f := 86) rfl ?_); refine goesL_ (some 8) rfl rfl Try.func86 (by kernel_rfl) rfl #[.slice A0_4 l0_4.length c0_4, .int .i64 a1] rfl (by (try simp only [List.map_toArray, List.map_cons, List.map_nil]); first | done | rfl | (simp only [List.length_drop, List.length_take]; rfl)) ?_; (with_reducible refine (laws_heldFrameS.calls k _ _ l0_4 a1 t1007 _ ?side1 ?side2 A3.out).mono ?_); (case side1 => repeat (first | exact (Kd.C_below HR0_4.out HB.out) | (with_reducible refine Kd.C_alloc ?_ _) | (with_reducible refine Kd.C_drewN ?_ _) | (with_reducible refine Kd.C_drew ?_))); (case side2 => exact HC0_4.out); rintro e w' ⟨rfl, ⟨nd, rfl⟩⟩; refine ⟨_, rfl, ?_⟩) | ((with_reducible refine gate_callee (f := 87) rfl ?_); refine goesL_ (some 14) rfl rfl Try.func87 (by kernel_rfl) rfl #[.slice A0_5 l0_5.length c0_5, .int .i64 t1007] rfl (by (try simp only [List.map_toArray, List.map_cons, List.map_nil]); first | done | rfl | (simp only [List.length_drop, List.length_take]; rfl)) ?_; (with_reducible refine (laws_heldValS.calls k _ _ l0_5 t1007 t1008 _ ?side1 ?side2 A7.out).mono ?_); (case side1 => repeat (first | exact (Kd.C_below HR0_5.out (by repeat (first | (with_reducible first | exact HB.out | apply ai_ | apply ag_ | apply ah_ | refine af_ ?_ GE1006.out) | exact HB.out))) | (with_reducible refine Kd.C_alloc ?_ _) | (with_reducible refine Kd.C_drewN ?_ _) | (with_reducible refine Kd.C_drew ?_))); (case side2 => exact HC0_5.out); rintro e w' ⟨rfl, ⟨nd, rfl⟩⟩; refine ⟨_, rfl, ?_⟩) | ((with_reducible refine gate_callee (f := 88) rfl ?_); refine goesL_ (some 20) rfl rfl Try.func88 (by kernel_rfl) rfl #[.slice A0_6 l0_6.length c0_6, .int .i64 t1008] rfl (by (try simp only [List.map_toArray, List.map_cons, List.map_nil]); first | done | rfl | (simp only [List.length_drop, List.length_take]; rfl)) ?_; (with_reducible refine (laws_heldBindS.calls k _ _ l0_6 t1008 t1009 _ ?side1 ?side2 A11.out).mono ?_); (case side1 => repeat (first | exact (Kd.C_below HR0_6.out (by repeat (first | (with_reducible first | exact HB.out | apply ai_ | apply ag_ | apply ah_ | refine af_ ?_ GE1006.out) | exact HB.out))) | (with_reducible refine Kd.C_alloc ?_ _) | (with_reducible refine Kd.C_drewN ?_ _) | (with_reducible refine Kd.C_drew ?_))); (case side2 => exact HC0_6.out); rintro e w' ⟨rfl, ⟨nd, rfl⟩⟩; refine ⟨_, rfl, ?_⟩))
        go_ret
        exact ⟨by first | rfl | (simp [errW_none, errW_some] <;> rfl) | (simp [*, errW_none, errW_some] <;> rfl), by repeat (first | (with_reducible first | exact HB.out | apply ai_ | apply ag_ | apply ah_ | refine af_ ?_ GE1006.out) | exact HB.out)⟩
      · rw [if_neg c12] at H
        have c12b0 : decide (t1009 < 0) = false := decide_eq_false c12
        clear c12
        obtain rfl := Option.some.inj H
        go_enter Try.func46, Try.ntmps46
        go_wp2_with (first | ((with_reducible refine gate_dst (N := 2) rfl ?_); refine box_event ?hg (N := 2) ?hd (cs := #[.bool a0_0, .int .i64 a0_1, .int .i64 a0_2, .int .i64 a0_3, .slice A0_4 l0_4.length c0_4, .slice A0_5 l0_5.length c0_5, .slice A0_6 l0_6.length c0_6]) (t := 55) ?hr ?_; (case hd => rfl); (case hg => rfl); (case hr => first | (go_simp; done) | (go_simp; rfl)); intro gb1006 hg w15 hbox hb; have n0_ := ab_ (ao_ (by repeat (first | (with_reducible first | exact HB.out | apply ai_ | apply ag_ | apply ah_) | exact HB.out)) hb); have n1_ := ab_ (hbox); have n2_ := ab_ ((by rw [hg]; exact (below_size (by repeat (first | (with_reducible first | exact HB.out | apply ai_ | apply ag_ | apply ah_) | exact HB.out))) : w.heap.size ≤ gb1006)); have n3_ := ab_ ((by rw [hg]; exact (below_size (by repeat (first | (with_reducible first | exact HB.out | apply ai_ | apply ag_ | apply ah_) | exact HB.out))) : w.heap.size ≤ gb1006)); clear HB; have HB := n0_; have BK1006 := n1_; have GW1006 := n2_; have GE1006 := n3_; clear n0_ n1_ n2_ n3_; clear hb hbox hg; have hcz16_0 : w15.cell? ⟨gb1006, 0, none⟩ = some (.bool a0_0) := (am_ BK1006.out 0).trans rfl; have hcz16_1 : w15.cell? ⟨gb1006, 1, none⟩ = some (.int .i64 a0_1) := (am_ BK1006.out 1).trans rfl; have hcz16_2 : w15.cell? ⟨gb1006, 2, none⟩ = some (.int .i64 a0_2) := (am_ BK1006.out 2).trans rfl; have hcz16_3 : w15.cell? ⟨gb1006, 3, none⟩ = some (.int .i64 a0_3) := (am_ BK1006.out 3).trans rfl; have hcz16_4 : w15.cell? ⟨gb1006, 4, none⟩ = some (.slice A0_4 l0_4.length c0_4) := (am_ BK1006.out 4).trans rfl; have hcz16_5 : w15.cell? ⟨gb1006, 5, none⟩ = some (.slice A0_5 l0_5.length c0_5) := (am_ BK1006.out 5).trans rfl; have hcz16_6 : w15.cell? ⟨gb1006, 6, none⟩ = some (.slice A0_6 l0_6.length c0_6) := (am_ BK1006.out 6).trans rfl; have hfz16_0 := al_ BK1006.out 0; have hfz16_1 := al_ BK1006.out 1; have hfz16_2 := al_ BK1006.out 2; have hfz16_3 := al_ BK1006.out 3; have hfz16_4 := al_ BK1006.out 4; have hfz16_5 := al_ BK1006.out 5; have hfz16_6 := al_ BK1006.out 6) | ((with_reducible refine gate_callee (f := 86) rfl ?_); refine goesL_ (some 8) rfl rfl Try.func86 (by kernel_rfl) rfl #[.slice A0_4 l0_4.length c0_4, .int .i64 a1] rfl (by (try simp only [List.map_toArray, List.map_cons, List.map_nil]); first | done | rfl | (simp only [List.length_drop, List.length_take]; rfl)) ?_; (with_reducible refine (laws_heldFrameS.calls k _ _ l0_4 a1 t1007 _ ?side1 ?side2 A3.out).mono ?_); (case side1 => repeat (first | exact (Kd.C_below HR0_4.out HB.out) | (with_reducible refine Kd.C_alloc ?_ _) | (with_reducible refine Kd.C_drewN ?_ _) | (with_reducible refine Kd.C_drew ?_))); (case side2 => exact HC0_4.out); rintro e w' ⟨rfl, ⟨nd, rfl⟩⟩; refine ⟨_, rfl, ?_⟩) | ((with_reducible refine gate_callee (f := 87) rfl ?_); refine goesL_ (some 14) rfl rfl Try.func87 (by kernel_rfl) rfl #[.slice A0_5 l0_5.length c0_5, .int .i64 t1007] rfl (by (try simp only [List.map_toArray, List.map_cons, List.map_nil]); first | done | rfl | (simp only [List.length_drop, List.length_take]; rfl)) ?_; (with_reducible refine (laws_heldValS.calls k _ _ l0_5 t1007 t1008 _ ?side1 ?side2 A7.out).mono ?_); (case side1 => repeat (first | exact (Kd.C_below HR0_5.out (by repeat (first | (with_reducible first | exact HB.out | apply ai_ | apply ag_ | apply ah_ | refine af_ ?_ GE1006.out) | exact HB.out))) | (with_reducible refine Kd.C_alloc ?_ _) | (with_reducible refine Kd.C_drewN ?_ _) | (with_reducible refine Kd.C_drew ?_))); (case side2 => exact HC0_5.out); rintro e w' ⟨rfl, ⟨nd, rfl⟩⟩; refine ⟨_, rfl, ?_⟩) | ((with_reducible refine gate_callee (f := 88) rfl ?_); refine goesL_ (some 20) rfl rfl Try.func88 (by kernel_rfl) rfl #[.slice A0_6 l0_6.length c0_6, .int .i64 t1008] rfl (by (try simp only [List.map_toArray, List.map_cons, List.map_nil]); first | done | rfl | (simp only [List.length_drop, List.length_take]; rfl)) ?_; (with_reducible refine (laws_heldBindS.calls k _ _ l0_6 t1008 t1009 _ ?side1 ?side2 A11.out).mono ?_); (case side1 => repeat (first | exact (Kd.C_below HR0_6.out (by repeat (first | (with_reducible first | exact HB.out | apply ai_ | apply ag_ | apply ah_ | refine af_ ?_ GE1006.out) | exact HB.out))) | (with_reducible refine Kd.C_alloc ?_ _) | (with_reducible refine Kd.C_drewN ?_ _) | (with_reducible refine Kd.C_drew ?_))); (case side2 => exact HC0_6.out); rintro e w' ⟨rfl, ⟨nd, rfl⟩⟩; refine ⟨_, rfl, ?_⟩))
        go_ret
        exact ⟨by first | rfl | (simp [errW_none, errW_some] <;> rfl) | (simp [*, errW_none, errW_some] <;> rfl), by repeat (first | (with_reducible first | exact HB.out | apply ai_ | apply ag_ | apply ah_ | refine af_ ?_ GE1006.out) | exact HB.out)⟩
end Go.Proofs.Ytgoiifpimpnlpaa.PAll

end

section
namespace Go.Proofs.Ytgoiifpimpnlpaa.PAll
open Go.RowKit Go.Proofs.YtgoiifpimpnlpaaW.PrintWords Go.Proofs.YtgoiifpimpnlpaaW.PrintLast Go.Proofs.YtgoiifpimpnlpaaW.PrintMore
set_option linter.unusedVariables false
set_option linter.unusedSimpArgs false
theorem C_empty {α : Type} (d : Kd α) (w : World) (A : Option Addr) : Kd.C d w A 0 [] := ⟨rfl, by simp, fun h => absurd h (Nat.lt_irrefl 0)⟩
theorem blk_kept {w w' : World} {S : Nat → Prop} {o : Nat} {x : Obj} (h : w.heap[o]? = some x) (hk : Kept w w' S) (hn : ¬ S o) : w'.heap[o]? = some x := (hk.2 o (blk_lt h) hn).trans h
def begM (b : Bool) : Int := if b = true then -1 else 0
def lawStartF (k : Nat) (l0 : List S68) : Option Bool :=
  (laws_szCellS.f l0 1048576).bind fun t => if t < 0 then some true else
    (laws_toCellS.f k l0).bind fun t1 => if startB t1 = startS t1 then
      (laws_eqMachine.f k false 0 (begM (startB t1)) (begM (startB t1)) [] [] [] false 0 (begM (startB t1)) (begM (startB t1)) [] [] []).bind fun e => if e = true then
        (laws_eqCellS.f k t1 t1).bind fun e2 => if e2 = true then
          (laws_markCellS.f k t1 1).bind fun m => if 0 ≤ m.1 then
            (laws_markMachine.f k false 0 (begM (startB t1)) (begM (startB t1)) [] [] [] 1).bind fun mi => if 0 ≤ mi.1 then
              (laws_heldMachine.f k false 0 (begM (startB t1)) (begM (startB t1)) [] [] [] 1).bind fun h => if h = mi.1 then some true else none
            else none
          else none
        else none
      else none else none
set_option maxRecDepth 100000 in
set_option maxHeartbeats 4000000 in
theorem lawStart_calls (k : Nat) (A0 : Option Addr) (c0 : Nat) (l0 : List S68) (w : World) (hr0 : Kd.C k68 w A0 l0.length l0) (hc0 : l0.length ≤ c0) (h : lawStartF k l0 = some true) :
    Calls Try.prog 12 #[.slice A0 l0.length c0] w fun e w' => e = .returned (.bool true) ∧ Below w.heap.size w w' := by
  unfold lawStartF at h
  obtain ⟨t, hsz, h⟩ := Option.bind_eq_some_iff.mp h
  have HR0 := Lib.hid hr0
  have HSZ := Lib.hid hsz
  clear hr0 hsz
  by_cases ht : t < 0
  · have hd : decide (t < 0) = true := an_ ht
    clear h
    go_enter Try.func12, Try.ntmps12
    go_wp2_with fail
    refine (laws_szCellS.calls A0 c0 l0 1048576 t w HR0.out hc0 HSZ.out).mono ?_
    rintro e w1 ⟨rfl, ⟨nd, rfl⟩⟩
    go_wp2
    go_ret
    exact ⟨rfl, ag_ (Below.refl _ _) nd⟩
  · have hd : decide (t < 0) = false := decide_eq_false ht
    rw [if_neg ht] at h
    obtain ⟨t1, htc, h⟩ := Option.bind_eq_some_iff.mp h
    obtain ⟨hss, h⟩ := if_some h
    obtain ⟨e, heq, h⟩ := Option.bind_eq_some_iff.mp h
    replace h := if_some h
    obtain ⟨he_, h⟩ := h
    subst he_
    obtain ⟨e2, heq2, h⟩ := Option.bind_eq_some_iff.mp h
    replace h := if_some h
    obtain ⟨he_, h⟩ := h
    subst he_
    obtain ⟨⟨mk, ys⟩, hmk, h⟩ := Option.bind_eq_some_iff.mp h
    obtain ⟨hm, h⟩ := if_some h
    obtain ⟨⟨mi, z4, z5, z6⟩, hmi, h⟩ := Option.bind_eq_some_iff.mp h
    obtain ⟨hmi0, h⟩ := if_some h
    obtain ⟨hh, hhe, h⟩ := Option.bind_eq_some_iff.mp h
    obtain ⟨hhh, h⟩ := if_some h
    simp only at hm hmi0 hhe hhh
    subst hhh
    clear h
    have hmd : decide (mk < 0) = false := decide_eq_false (by omega)
    have hmd2 : decide (hh < 0) = false := decide_eq_false (by omega)
    obtain ⟨b, hb⟩ : ∃ b, startB t1 = b := ⟨_, rfl⟩
    have hbs : startS t1 = b := by rw [← hss, hb]
    rw [hb] at heq hmi hhe
    obtain ⟨m, hM⟩ : ∃ m, m = begM b := ⟨_, rfl⟩
    rw [← hM] at heq hmi hhe
    have CP := Lib.hid (fun (l : List S66) (hl : startB l = b) (A : Option Addr) (c : Nat) (W : World) (hr : Kd.C k66 W A l.length l) (hc : l.length ≤ c) => StartMachine_calls l A c W hr hc)
    have CS := Lib.hid (fun (A : Option Addr) (c : Nat) (W : World) (hr : Kd.C k66 W A t1.length t1) (hc : t1.length ≤ c) => by have := specStart_calls t1 A c W hr hc; rw [hbs] at this; unfold StPS at this; rw [show (if b = true then (-1 : Int) else 0) = m from hM.symm] at this; exact this)
    have CG := Lib.hid (fun (A : Option Addr) (c : Nat) (W : World) (hr : Kd.C k66 W A t1.length t1) (hc : t1.length ≤ c) => by have := StartMachine_calls t1 A c W hr hc; rw [hb] at this; unfold StP at this; rw [show (if b = true then (-1 : Int) else 0) = m from hM.symm] at this; exact this)
    have HTC := Lib.hid htc
    have HEQ := Lib.hid heq
    have HEQ2 := Lib.hid heq2
    have HMK := Lib.hid hmk
    have HMI := Lib.hid hmi
    have HHE := Lib.hid hhe
    clear htc heq heq2 hmk hmi hhe ht hm hmi0 hss hb hbs hM CP
    go_enter Try.func12, Try.ntmps12
    go_wp2_with fail
    refine (laws_szCellS.calls A0 c0 l0 1048576 t w HR0.out hc0 HSZ.out).mono ?_
    rintro e w1 ⟨rfl, ⟨nd, rfl⟩⟩
    have HB1 := Lib.hid (ag_ (Below.refl w.heap.size w) nd)
    generalize hw1 : w.drewN nd = w1 at HB1
    clear hw1
    go_wp2_with fail
    refine (laws_toCellS.calls k A0 c0 l0 t1 w1 (Kd.C_below HR0.out HB1.out) hc0 HTC.out).mono ?_
    rintro e w2 ⟨v1, rfl, h1, b2⟩
    obtain ⟨A1, c1, hv1, hl1, _⟩ := Kd.R_reads h1
    subst hv1
    have HB2 := Lib.hid (ao_ HB1.out b2)
    have HC1 := Lib.hid (Kd.R_reads' h1).2.2
    clear h1 b2
    go_wp2_with fail
    refine (CS.out A1 c1 w2 HC1.out hl1).mono ?_
    rintro e w3 ⟨A4, c4, A5, c5, A6, c6, rfl, b3⟩
    obtain ⟨w3a, hw3a⟩ : ∃ W, W = w3.alloc (.cells #[.bool false, .int .i64 0, .int .i64 m, .int .i64 m, .slice A4 0 c4, .slice A5 0 c5, .slice A6 0 c6] 55) := ⟨_, rfl⟩
    obtain ⟨o4, ho4⟩ : ∃ o, o = w3.heap.size := ⟨_, rfl⟩
    have HO4 := Lib.hid (show w3a.heap[o4]? = some (.cells #[.bool false, .int .i64 0, .int .i64 m, .int .i64 m, .slice A4 0 c4, .slice A5 0 c5, .slice A6 0 c6] 55) by rw [hw3a, ho4]; exact blk_new _ _)
    have HB3 := Lib.hid (show Below w.heap.size w w3a by rw [hw3a]; exact ao_ (ao_ HB2.out b3) (ai_ (Below.refl _ _) _))
    have hlo4 : o4 < w3a.heap.size := blk_lt HO4.out
    clear b3 hl1
    go_wp2_with fail
    rw [← hw3a, ← ho4]
    clear hw3a ho4
    refine (laws_toCellS.calls k A0 c0 l0 t1 w3a (Kd.C_below HR0.out HB3.out) hc0 HTC.out).mono ?_
    rintro e w4 ⟨v0, rfl, h1, b4⟩
    obtain ⟨Ax, cx, hv0, hlx, _⟩ := Kd.R_reads h1
    subst hv0
    have HB4 := Lib.hid b4
    have HX := Lib.hid (show Kd.R k66 66 w4 w3a.heap.size (fun k => w3a.heap.size ≤ k ∧ k < w4.heap.size) (.slice Ax t1.length cx) t1 from Kd.R_mono (Kd.R_bound h1) (fun k hk => ⟨hk.2.1, hk.2.2.1⟩))
    clear h1 b4
    have hz34 : w3a.heap.size ≤ w4.heap.size := HB4.out.size
    go_wp2_with fail
    refine (CG.out Ax cx w4 (Kd.R_reads' HX.out).2.2 hlx).mono ?_
    rintro e w5 ⟨rfl, b5⟩
    have HO4_5 := Lib.hid (blk_below (blk_below HO4.out HB4.out) b5)
    have HB45 := Lib.hid b5
    obtain ⟨w5a, hw5a⟩ : ∃ W, W = w5.alloc (.cells #[.bool false, .int .i64 0, .int .i64 m, .int .i64 m, .slice none 0 0, .slice none 0 0, .slice none 0 0] 55) := ⟨_, rfl⟩
    obtain ⟨o7, ho7⟩ : ∃ o, o = w5.heap.size := ⟨_, rfl⟩
    have HO7 := Lib.hid (show w5a.heap[o7]? = some (.cells #[.bool false, .int .i64 0, .int .i64 m, .int .i64 m, .slice none 0 0, .slice none 0 0, .slice none 0 0] 55) by rw [hw5a, ho7]; exact blk_new _ _)
    have HB5 := Lib.hid (show Below w4.heap.size w4 w5a by rw [hw5a]; exact ao_ b5 (ai_ (Below.refl _ _) _))
    have HO4a := Lib.hid (show w5a.heap[o4]? = some (.cells #[.bool false, .int .i64 0, .int .i64 m, .int .i64 m, .slice A4 0 c4, .slice A5 0 c5, .slice A6 0 c6] 55) by rw [hw5a]; exact ad_ HO4_5.out _)
    have hlo7 : w4.heap.size ≤ o7 := by rw [ho7]; exact b5.size
    have HHO7 := Lib.hid ho7
    have HHW5 := Lib.hid hw5a
    clear b5 hw5a ho7
    have p0 : ∀ x, (w5.alloc x).cell? ⟨o4, 0, none⟩ = some (.bool false) := fun x => (am_ (ad_ HO4_5.out x) 0).trans rfl
    have p1 : ∀ x, (w5.alloc x).cell? ⟨o4, 1, none⟩ = some (.int .i64 0) := fun x => (am_ (ad_ HO4_5.out x) 1).trans rfl
    have p2 : ∀ x, (w5.alloc x).cell? ⟨o4, 2, none⟩ = some (.int .i64 m) := fun x => (am_ (ad_ HO4_5.out x) 2).trans rfl
    have p3 : ∀ x, (w5.alloc x).cell? ⟨o4, 3, none⟩ = some (.int .i64 m) := fun x => (am_ (ad_ HO4_5.out x) 3).trans rfl
    have p4 : ∀ x, (w5.alloc x).cell? ⟨o4, 4, none⟩ = some (.slice A4 0 c4) := fun x => (am_ (ad_ HO4_5.out x) 4).trans rfl
    have p5 : ∀ x, (w5.alloc x).cell? ⟨o4, 5, none⟩ = some (.slice A5 0 c5) := fun x => (am_ (ad_ HO4_5.out x) 5).trans rfl
    have p6 : ∀ x, (w5.alloc x).cell? ⟨o4, 6, none⟩ = some (.slice A6 0 c6) := fun x => (am_ (ad_ HO4_5.out x) 6).trans rfl
    go_wp2_with fail
    clear p0 p1 p2 p3 p4 p5 p6
    rw [← HHW5.out, ← HHO7.out]
    refine (laws_eqMachine.calls k false 0 m m none 0 [] none 0 [] none 0 [] false 0 m m A4 c4 [] A5 c5 [] A6 c6 [] true w5a (C_empty _ _ _) (Nat.le_refl _) (C_empty _ _ _) (Nat.le_refl _) (C_empty _ _ _) (Nat.le_refl _) (C_empty _ _ _) (Nat.zero_le _) (C_empty _ _ _) (Nat.zero_le _) (C_empty _ _ _) (Nat.zero_le _) HEQ.out).mono ?_
    rintro e w6 ⟨rfl, b6⟩
    have HB6 := Lib.hid b6
    clear b6
    have HT5 := Lib.hid (ao_ (ao_ HB3.out HB4.out) HB5.out)
    have HT6 := Lib.hid (ao_ HT5.out HB6.out)
    have H36 := Lib.hid (ao_ (ao_ HB4.out HB5.out) HB6.out)
    go_wp2_with fail
    refine (laws_toCellS.calls k A0 c0 l0 t1 w6 (Kd.C_below HR0.out HT6.out) hc0 HTC.out).mono ?_
    rintro e w7 ⟨v7, rfl, h1, b7⟩
    obtain ⟨A7, c7, hv7, hl7, _⟩ := Kd.R_reads h1
    subst hv7
    have HB7 := Lib.hid b7
    have HC7 := Lib.hid (Kd.R_reads' h1).2.2
    clear h1 b7
    have HX7 := Lib.hid (Kd.R_below (Kd.R_below (Kd.R_below HX.out HB5.out) HB6.out) HB7.out)
    go_wp2_with fail
    refine (laws_eqCellS.calls k Ax cx t1 A7 c7 t1 true w7 (Kd.R_reads' HX7.out).2.2 hlx HC7.out hl7 HEQ2.out).mono ?_
    rintro e w8 ⟨rfl, b8⟩
    have HB8 := Lib.hid b8
    clear b8
    have H38 := Lib.hid (ao_ (ao_ H36.out HB7.out) HB8.out)
    have HX8 := Lib.hid (Kd.R_below HX7.out HB8.out)
    have HO4_8 := Lib.hid (blk_below (blk_below (blk_below HO4a.out HB6.out) HB7.out) HB8.out)
    have HO7_8 := Lib.hid (blk_below (blk_below (blk_below HO7.out HB6.out) HB7.out) HB8.out)
    clear HX7
    go_wp2_with fail
    refine (laws_markCellS.calls k (fun k => w3a.heap.size ≤ k ∧ k < w4.heap.size) (.slice Ax t1.length cx) t1 1 mk ys w3a w8 H38.out HX8.out HMK.out).mono ?_
    rintro e w9 ⟨rfl, _, b9, k9⟩
    have HB9 := Lib.hid b9
    have HO4_9 := Lib.hid (blk_kept HO4_8.out k9 (by omega))
    have HO7_9 := Lib.hid (blk_kept HO7_8.out k9 (by omega))
    clear b9 k9
    have p0 : w9.cell? ⟨o4, 0, none⟩ = some (.bool false) := (am_ HO4_9.out 0).trans rfl
    have p1 : w9.cell? ⟨o4, 1, none⟩ = some (.int .i64 0) := (am_ HO4_9.out 1).trans rfl
    have p2 : w9.cell? ⟨o4, 2, none⟩ = some (.int .i64 m) := (am_ HO4_9.out 2).trans rfl
    have p3 : w9.cell? ⟨o4, 3, none⟩ = some (.int .i64 m) := (am_ HO4_9.out 3).trans rfl
    have p4 : w9.cell? ⟨o4, 4, none⟩ = some (.slice A4 0 c4) := (am_ HO4_9.out 4).trans rfl
    have p5 : w9.cell? ⟨o4, 5, none⟩ = some (.slice A5 0 c5) := (am_ HO4_9.out 5).trans rfl
    have p6 : w9.cell? ⟨o4, 6, none⟩ = some (.slice A6 0 c6) := (am_ HO4_9.out 6).trans rfl
    have q0 : w9.cell? ⟨o7, 0, none⟩ = some (.bool false) := (am_ HO7_9.out 0).trans rfl
    have q1 : w9.cell? ⟨o7, 1, none⟩ = some (.int .i64 0) := (am_ HO7_9.out 1).trans rfl
    have q2 : w9.cell? ⟨o7, 2, none⟩ = some (.int .i64 m) := (am_ HO7_9.out 2).trans rfl
    have q3 : w9.cell? ⟨o7, 3, none⟩ = some (.int .i64 m) := (am_ HO7_9.out 3).trans rfl
    have q4 : w9.cell? ⟨o7, 4, none⟩ = some (.slice none 0 0) := (am_ HO7_9.out 4).trans rfl
    have q5 : w9.cell? ⟨o7, 5, none⟩ = some (.slice none 0 0) := (am_ HO7_9.out 5).trans rfl
    have q6 : w9.cell? ⟨o7, 6, none⟩ = some (.slice none 0 0) := (am_ HO7_9.out 6).trans rfl
    go_wp2_with fail
    clear p0 p1 p2 p3 p4 p5 p6 q0 q1 q2 q3 q4 q5 q6
    refine (laws_eqMachine.calls k false 0 m m none 0 [] none 0 [] none 0 [] false 0 m m A4 c4 [] A5 c5 [] A6 c6 [] true w9 (C_empty _ _ _) (Nat.le_refl _) (C_empty _ _ _) (Nat.le_refl _) (C_empty _ _ _) (Nat.le_refl _) (C_empty _ _ _) (Nat.zero_le _) (C_empty _ _ _) (Nat.zero_le _) (C_empty _ _ _) (Nat.zero_le _) HEQ.out).mono ?_
    rintro e w10 ⟨rfl, b10⟩
    have HB10 := Lib.hid b10
    have H310 := Lib.hid (ao_ HB9.out b10)
    have HO4_10 := Lib.hid (blk_below HO4_9.out b10)
    have HO7_10 := Lib.hid (blk_below HO7_9.out b10)
    clear b10
    have q0 : w10.cell? ⟨o7, 0, none⟩ = some (.bool false) := (am_ HO7_10.out 0).trans rfl
    have q1 : w10.cell? ⟨o7, 1, none⟩ = some (.int .i64 0) := (am_ HO7_10.out 1).trans rfl
    have q2 : w10.cell? ⟨o7, 2, none⟩ = some (.int .i64 m) := (am_ HO7_10.out 2).trans rfl
    have q3 : w10.cell? ⟨o7, 3, none⟩ = some (.int .i64 m) := (am_ HO7_10.out 3).trans rfl
    have q4 : w10.cell? ⟨o7, 4, none⟩ = some (.slice none 0 0) := (am_ HO7_10.out 4).trans rfl
    have q5 : w10.cell? ⟨o7, 5, none⟩ = some (.slice none 0 0) := (am_ HO7_10.out 5).trans rfl
    have q6 : w10.cell? ⟨o7, 6, none⟩ = some (.slice none 0 0) := (am_ HO7_10.out 6).trans rfl
    go_wp2_with fail
    clear q0 q1 q2 q3 q4 q5 q6
    refine (laws_markMachine.calls k false 0 m m (fun _ => False) (.slice none 0 0) [] (fun _ => False) (.slice none 0 0) [] (fun _ => False) (.slice none 0 0) [] 1 hh z4 z5 z6 w3a w10 H310.out (Kd.R_nil _ _ _ _ _) (Kd.R_nil _ _ _ _ _) (Kd.R_nil _ _ _ _ _) HMI.out).mono ?_
    rintro e w11 ⟨rfl, _, _, _, b11, k11⟩
    have HB11 := Lib.hid b11
    have HO4_11 := Lib.hid (blk_kept HO4_10.out k11 (by simp))
    have HO7_11 := Lib.hid (blk_kept HO7_10.out k11 (by simp))
    clear b11 k11
    have C46 := Lib.hid (fun (W : World) => laws_heldMachine.calls k false 0 m m none 0 [] none 0 [] none 0 [] 1 hh W (C_empty _ _ _) (Nat.le_refl _) (C_empty _ _ _) (Nat.le_refl _) (C_empty _ _ _) (Nat.le_refl _) HHE.out)
    have q0 : w11.cell? ⟨o7, 0, none⟩ = some (.bool false) := (am_ HO7_11.out 0).trans rfl
    have q1 : w11.cell? ⟨o7, 1, none⟩ = some (.int .i64 0) := (am_ HO7_11.out 1).trans rfl
    have q2 : w11.cell? ⟨o7, 2, none⟩ = some (.int .i64 m) := (am_ HO7_11.out 2).trans rfl
    have q3 : w11.cell? ⟨o7, 3, none⟩ = some (.int .i64 m) := (am_ HO7_11.out 3).trans rfl
    have q4 : w11.cell? ⟨o7, 4, none⟩ = some (.slice none 0 0) := (am_ HO7_11.out 4).trans rfl
    have q5 : w11.cell? ⟨o7, 5, none⟩ = some (.slice none 0 0) := (am_ HO7_11.out 5).trans rfl
    have q6 : w11.cell? ⟨o7, 6, none⟩ = some (.slice none 0 0) := (am_ HO7_11.out 6).trans rfl
    go_wp2_with fail
    clear q0 q1 q2 q3 q4 q5 q6
    refine (C46.out w11).mono ?_
    rintro e w12 ⟨rfl, b12⟩
    have HB12 := Lib.hid b12
    clear b12
    have HT11 := Lib.hid (show Below w.heap.size w w11 from (HB3.out).trans (HB11.out.mono HB3.out.size))
    have HT12 := Lib.hid (ao_ HT11.out HB12.out)
    go_wp2_with fail
    refine (laws_toCellS.calls k A0 c0 l0 t1 w12 (Kd.C_below HR0.out HT12.out) hc0 HTC.out).mono ?_
    rintro e w13 ⟨v13, rfl, h1, b13⟩
    obtain ⟨A13, c13, hv13, hl13, _⟩ := Kd.R_reads h1
    subst hv13
    have HB13 := Lib.hid b13
    have HC13 := Lib.hid (Kd.R_reads' h1).2.2
    clear h1 b13
    go_wp2_with fail
    refine (CG.out A13 c13 w13 HC13.out hl13).mono ?_
    rintro e w14 ⟨rfl, b14⟩
    have HB14 := Lib.hid b14
    have HO4_14 := Lib.hid (blk_below (blk_below (blk_below HO4_11.out HB12.out) HB13.out) b14)
    have HO7_14 := Lib.hid (blk_below (blk_below (blk_below HO7_11.out HB12.out) HB13.out) b14)
    obtain ⟨w14a, hw14⟩ : ∃ W, W = w14.alloc (.cells #[.bool false, .int .i64 0, .int .i64 m, .int .i64 m, .slice none 0 0, .slice none 0 0, .slice none 0 0] 55) := ⟨_, rfl⟩
    have HW14 := Lib.hid hw14
    have HB14a := Lib.hid (show Below w14.heap.size w14 w14a by rw [hw14]; exact ai_ (Below.refl _ _) _)
    clear b14 hw14
    have p0 : ∀ x, (w14.alloc x).cell? ⟨o4, 0, none⟩ = some (.bool false) := fun x => (am_ (ad_ HO4_14.out x) 0).trans rfl
    have p1 : ∀ x, (w14.alloc x).cell? ⟨o4, 1, none⟩ = some (.int .i64 0) := fun x => (am_ (ad_ HO4_14.out x) 1).trans rfl
    have p2 : ∀ x, (w14.alloc x).cell? ⟨o4, 2, none⟩ = some (.int .i64 m) := fun x => (am_ (ad_ HO4_14.out x) 2).trans rfl
    have p3 : ∀ x, (w14.alloc x).cell? ⟨o4, 3, none⟩ = some (.int .i64 m) := fun x => (am_ (ad_ HO4_14.out x) 3).trans rfl
    have p4 : ∀ x, (w14.alloc x).cell? ⟨o4, 4, none⟩ = some (.slice A4 0 c4) := fun x => (am_ (ad_ HO4_14.out x) 4).trans rfl
    have p5 : ∀ x, (w14.alloc x).cell? ⟨o4, 5, none⟩ = some (.slice A5 0 c5) := fun x => (am_ (ad_ HO4_14.out x) 5).trans rfl
    have p6 : ∀ x, (w14.alloc x).cell? ⟨o4, 6, none⟩ = some (.slice A6 0 c6) := fun x => (am_ (ad_ HO4_14.out x) 6).trans rfl
    go_wp2_with fail
    clear p0 p1 p2 p3 p4 p5 p6
    rw [← HW14.out]
    refine (laws_eqMachine.calls k false 0 m m none 0 [] none 0 [] none 0 [] false 0 m m A4 c4 [] A5 c5 [] A6 c6 [] true w14a (C_empty _ _ _) (Nat.le_refl _) (C_empty _ _ _) (Nat.le_refl _) (C_empty _ _ _) (Nat.le_refl _) (C_empty _ _ _) (Nat.zero_le _) (C_empty _ _ _) (Nat.zero_le _) (C_empty _ _ _) (Nat.zero_le _) HEQ.out).mono ?_
    rintro e w15 ⟨rfl, b15⟩
    have HB15 := Lib.hid b15
    have HO7_15 := Lib.hid (blk_below (blk_below HO7_14.out HB14a.out) b15)
    clear b15
    have H1115 := Lib.hid (ao_ (ao_ (ao_ (ao_ HB12.out HB13.out) HB14.out) HB14a.out) HB15.out)
    have q0 : w15.cell? ⟨o7, 0, none⟩ = some (.bool false) := (am_ HO7_15.out 0).trans rfl
    have q1 : w15.cell? ⟨o7, 1, none⟩ = some (.int .i64 0) := (am_ HO7_15.out 1).trans rfl
    have q2 : w15.cell? ⟨o7, 2, none⟩ = some (.int .i64 m) := (am_ HO7_15.out 2).trans rfl
    have q3 : w15.cell? ⟨o7, 3, none⟩ = some (.int .i64 m) := (am_ HO7_15.out 3).trans rfl
    have q4 : w15.cell? ⟨o7, 4, none⟩ = some (.slice none 0 0) := (am_ HO7_15.out 4).trans rfl
    have q5 : w15.cell? ⟨o7, 5, none⟩ = some (.slice none 0 0) := (am_ HO7_15.out 5).trans rfl
    have q6 : w15.cell? ⟨o7, 6, none⟩ = some (.slice none 0 0) := (am_ HO7_15.out 6).trans rfl
    go_wp2_with fail
    clear q0 q1 q2 q3 q4 q5 q6
    refine (C46.out w15).mono ?_
    rintro e w16 ⟨rfl, b16⟩
    have HB16 := Lib.hid b16
    clear b16
    go_wp2
    go_ret
    exact ⟨rfl, ao_ (ao_ HT11.out H1115.out) HB16.out⟩
end Go.Proofs.Ytgoiifpimpnlpaa.PAll

end

section
namespace Go.Proofs.Ytgoiifpimpnlpaa.PAll
open Go.RowKit Go.Proofs.YtgoiifpimpnlpaaW.PrintWords Go.Proofs.YtgoiifpimpnlpaaW.PrintLast Go.Proofs.YtgoiifpimpnlpaaW.PrintMore
set_option linter.unusedVariables false
set_option linter.unusedSimpArgs false
def Ris (l : List Int) : Prop := l.Pairwise (· < ·)
theorem ins_mem (l : List Int) (n x : Int) : x ∈ ins l n ↔ x ∈ l ∨ x = n := by
  induction l with
  | nil => simp [ins]
  | cons y ys ih =>
    unfold ins
    split
    · simp only [List.mem_cons, ih, or_assoc]
    · split
      · rename_i h; subst h; simp only [List.mem_cons]
        constructor
        · exact .inl
        · rintro (h | h)
          · exact h
          · exact .inl h
      · simp only [List.mem_cons]
        constructor
        · rintro (h | h)
          · exact .inr h
          · exact .inl h
        · rintro (h | h)
          · exact .inr h
          · exact .inl h
theorem ins_ris (l : List Int) (n : Int) (h : Ris l) : Ris (ins l n) := by
  induction l with
  | nil => simp [ins, Ris]
  | cons y ys ih =>
    unfold Ris at h ih ⊢
    rw [List.pairwise_cons] at h
    unfold ins
    split
    · rename_i hlt
      rw [List.pairwise_cons]
      refine ⟨fun a ha => ?_, ih h.2⟩
      rcases (ins_mem ys n a).1 ha with ha | ha
      · exact h.1 a ha
      · omega
    · split
      · rw [List.pairwise_cons]; exact h
      · rw [List.pairwise_cons, List.pairwise_cons]
        refine ⟨fun a ha => ?_, h⟩
        rcases List.mem_cons.1 ha with ha | ha
        · omega
        · have := h.1 a ha; omega
theorem insAll_ris (L : List Int) : ∀ (out : List Int), Ris out → Ris (L.foldl ins out) := by
  induction L with
  | nil => intro out h; exact h
  | cons x L ih => intro out h; exact ih _ (ins_ris out x h)
theorem insAll_mem (L : List Int) : ∀ (out : List Int) (x : Int), x ∈ L.foldl ins out ↔ x ∈ out ∨ x ∈ L := by
  induction L with
  | nil => intro out x; simp
  | cons y L ih => intro out x; rw [List.foldl_cons, ih, ins_mem, List.mem_cons, or_assoc]
theorem ris_ext : ∀ {a b : List Int}, Ris a → Ris b → (∀ x, x ∈ a ↔ x ∈ b) → a = b
  | [], [], _, _, _ => rfl
  | [], y :: b, _, _, h => absurd ((h y).2 (by simp)) (by simp)
  | x :: a, [], _, _, h => absurd ((h x).1 (by simp)) (by simp)
  | x :: a, y :: b, ha, hb, h => by
    unfold Ris at ha hb
    rw [List.pairwise_cons] at ha hb
    have hxy : x = y := by
      have h1 := (h x).1 (by simp)
      have h2 := (h y).2 (by simp)
      rcases List.mem_cons.1 h1 with e | h1
      · exact e
      · rcases List.mem_cons.1 h2 with e | h2
        · exact e.symm
        · have := hb.1 x h1; have := ha.1 y h2; omega
    subst hxy
    congr 1
    refine ris_ext ha.2 hb.2 (fun z => ?_)
    constructor
    · intro hz
      rcases List.mem_cons.1 ((h z).1 (by simp [hz])) with e | h1
      · have := ha.1 z hz; omega
      · exact h1
    · intro hz
      rcases List.mem_cons.1 ((h z).2 (by simp [hz])) with e | h1
      · have := hb.1 z hz; omega
      · exact h1
theorem compact_ris (zs : List Int) (hs : zs.Pairwise (· ≤ ·)) : ∀ m, m ≤ zs.length → Ris (Lib.compactUpTo zs.toArray m) ∧ (∀ x, x ∈ Lib.compactUpTo zs.toArray m ↔ ∃ j, j < m ∧ zs[j]? = some x) := by
  intro m
  induction m with
  | zero => intro _; simp [Lib.compactUpTo, Ris]
  | succ m ih =>
    intro hm
    obtain ⟨h1, h2⟩ := ih (by omega)
    have hlt : m < zs.length := by omega
    have hg : (zs.toArray)[m]! = zs[m] := by simp [hlt]
    have hgm : zs[m]? = some zs[m] := by simp [hlt]
    have hle : ∀ j x, j < m → zs[j]? = some x → x ≤ zs[m] := by
      intro j x hj hx
      have hjl : j < zs.length := by omega
      rw [List.getElem?_eq_getElem hjl] at hx
      obtain rfl := Option.some.inj hx
      exact List.pairwise_iff_getElem.1 hs j m hjl hlt hj
    rw [Lib.compactUpTo_succ, hg]
    by_cases hk : Lib.keeps zs.toArray m = true
    · rw [if_pos hk]
      constructor
      · unfold Ris at h1 ⊢
        rw [List.pairwise_append]
        refine ⟨h1, by simp, fun a ha b hb => ?_⟩
        rw [List.mem_singleton.1 hb]
        obtain ⟨j, hj, hja⟩ := (h2 a).1 ha
        simp only [Lib.keeps, decide_eq_true_eq] at hk
        rcases hk with h0 | hne
        · omega
        · have hm1 : m - 1 < zs.length := by omega
          have e1 : (zs.toArray)[m - 1]! = zs[m - 1] := by simp [hm1]
          rw [hg, e1] at hne
          have l1 := hle (m - 1) zs[m - 1] (by omega) (by simp [hm1])
          have l2 : a ≤ zs[m - 1] := by
            rcases Nat.lt_or_ge j (m - 1) with hj1 | hj1
            · have hjl : j < zs.length := by omega
              rw [List.getElem?_eq_getElem hjl] at hja
              obtain rfl := Option.some.inj hja
              exact List.pairwise_iff_getElem.1 hs j (m - 1) hjl hm1 hj1
            · obtain rfl : j = m - 1 := by omega
              rw [List.getElem?_eq_getElem hm1] at hja
              obtain rfl := Option.some.inj hja
              exact Int.le_refl _
          omega
      · intro x
        rw [List.mem_append, h2, List.mem_singleton]
        constructor
        · rintro (⟨j, hj, hx⟩ | rfl)
          · exact ⟨j, by omega, hx⟩
          · exact ⟨m, by omega, hgm⟩
        · rintro ⟨j, hj, hx⟩
          rcases Nat.lt_or_ge j m with hj1 | hj1
          · exact .inl ⟨j, hj1, hx⟩
          · obtain rfl : j = m := by omega
            rw [hgm] at hx
            exact .inr (Option.some.inj hx).symm
    · rw [if_neg hk, List.append_nil]
      refine ⟨h1, fun x => ?_⟩
      rw [h2]
      have hk' : ¬ (m = 0 ∨ (zs.toArray)[m]! ≠ (zs.toArray)[m - 1]!) := by simpa [Lib.keeps] using hk
      constructor
      · rintro ⟨j, hj, hx⟩; exact ⟨j, by omega, hx⟩
      · rintro ⟨j, hj, hx⟩
        rcases Nat.lt_or_ge j m with hj1 | hj1
        · exact ⟨j, hj1, hx⟩
        · obtain rfl : j = m := by omega
          have h0 : j ≠ 0 := fun e => hk' (.inl e)
          have he : (zs.toArray)[j]! = (zs.toArray)[j - 1]! := Classical.not_not.1 (fun e => hk' (.inr e))
          have hm1 : j - 1 < zs.length := by omega
          have e1 : (zs.toArray)[j - 1]! = zs[j - 1] := by simp [hm1]
          rw [hg, e1] at he
          rw [hgm, he] at hx
          exact ⟨j - 1, by omega, by rw [List.getElem?_eq_getElem hm1]; exact hx⟩
theorem sortCompact_eq (L : List Int) : Lib.compact (L.mergeSort fun x y => decide (x ≤ y)) = L.foldl ins [] := by
  have hs : (L.mergeSort fun x y => decide (x ≤ y)).Pairwise (· ≤ ·) := by
    have := List.pairwise_mergeSort (le := fun x y : Int => decide (x ≤ y)) (fun a b c h1 h2 => by simp at *; omega) (fun a b => by simp; omega) L
    exact this.imp (fun h => by simpa using h)
  obtain ⟨h1, h2⟩ := compact_ris _ hs _ (Nat.le_refl _)
  refine ris_ext h1 (insAll_ris L [] List.Pairwise.nil) (fun x => ?_)
  show x ∈ Lib.compactUpTo _ _ ↔ _
  rw [h2, insAll_mem]
  constructor
  · rintro ⟨j, _, hx⟩
    exact .inr (List.mem_mergeSort.1 (List.mem_of_getElem? hx))
  · rintro (h | h)
    · cases h
    · obtain ⟨j, hj, hx⟩ := List.mem_iff_getElem.1 (List.mem_mergeSort (le := fun x y : Int => decide (x ≤ y)) |>.2 h)
      exact ⟨j, hj, by rw [List.getElem?_eq_getElem hj, hx]⟩
end Go.Proofs.Ytgoiifpimpnlpaa.PAll

end

section
namespace Go.Proofs.Ytgoiifpimpnlpaa.PAll
open Go.RowKit Go.Proofs.YtgoiifpimpnlpaaW.PrintWords Go.Proofs.YtgoiifpimpnlpaaW.PrintLast Go.Proofs.YtgoiifpimpnlpaaW.PrintMore
set_option linter.unusedVariables false
set_option linter.unusedSimpArgs false
theorem start_eq (l : List S66) : startB l = startS l := by
  unfold startB startS freeS
  cases tmof l with
  | none => rfl
  | some t => simp only; rw [sortCompact_eq]
theorem eqMachine_self (k : Nat) (m : Int) : laws_eqMachine.f (k + 1) false 0 m m [] [] [] false 0 m m [] [] [] = some true := by
  simp [laws_eqMachine.f, laws_eqFrameS.f, laws_eqValS.f, laws_eqBindS.f, laws_eqFrameS.l0, laws_eqValS.l0, laws_eqBindS.l0]
theorem markMachine_self (k : Nat) (m : Int) : laws_markMachine.f (k + 1) false 0 m m [] [] [] 1 = some (1, [], [], []) := by
  simp [laws_markMachine.f, laws_markFrameS.f, laws_markValS.f, laws_markBindS.f, laws_markFrameS.l0, laws_markValS.l0, laws_markBindS.l0]
theorem heldMachine_self (k : Nat) (m : Int) : laws_heldMachine.f (k + 1) false 0 m m [] [] [] 1 = some 1 := by
  simp [laws_heldMachine.f, laws_heldFrameS.f, laws_heldValS.f, laws_heldBindS.f, laws_heldFrameS.l0, laws_heldValS.l0, laws_heldBindS.l0]
theorem FnExactStartMachine_pure (l0 : List S68) (g0 : l0.length ≤ 9223372036854775807 ∧ ∀ xl0_ ∈ l0, ((Lit.int .i64 xl0_.f0).wf = true ∧ (Lit.int .i64 xl0_.f1).wf = true)) : ∃ k, lawStartF k l0 = some true := by
  refine ⟨1050003 + 1, ?_⟩
  unfold lawStartF laws_szCellS.f
  by_cases h : wrap64 (1048576 - (l0.length : Int)) < 0
  · rw [if_pos h]; simp
  · have hl : l0.length ≤ 17592186044416 ∧ l0.length < 1050000 := by have := g0.1; unfold wrap64 at h; omega
    rw [if_neg h]
    simp only [Option.bind_some]
    rw [if_neg h]
    obtain ⟨hl, hk⟩ := hl
    obtain ⟨zs, hz⟩ := markFrom_eq (l0.map cvM) (by simpa using hl) 1 (by omega) (1050003 + 1) (by simp; omega)
    simp only [Int.cast_ofNat_Int] at hz
    rw [toCellS_eq l0 hl _ (by omega)]
    simp only [Option.bind_some]
    rw [if_pos (start_eq _), eqMachine_self]
    simp only [Option.bind_some, if_true]
    rw [eqCellS_self _ (by simpa using hl) _ (by simp; omega)]
    simp only [Option.bind_some, if_true]
    rw [hz]
    simp only [Option.bind_some]
    rw [if_pos (by omega), markMachine_self]
    simp only [Option.bind_some]
    rw [if_pos (by omega), heldMachine_self]
    simp
end Go.Proofs.Ytgoiifpimpnlpaa.PAll

end

section
namespace Go.Proofs.YtgoiifpimpnlpaaW.Opens
open Go.RowKit Go.Proofs.YtgoiifpimpnlpaaW.PrintWords Go.ChangeShapes Go.WideShapes Go.Deep Go.Joins
def Opn {α : Type} (P : Program) (t : TypeId) (d : Kd α) (G : α → Prop) : Prop :=
  ∀ {H : Type} (enc : TypeId × Value → H) (w : World) (base : Nat) (spare : Nat → Bool) (held : Bool) (fuel : Nat) (cs : List Value) (x : DataW H × List MemPlace),
    DataW.trod enc P w base spare held fuel t cs = some x → ∃ a, d.K w a cs ∧ G a
theorem opn_int {P : Program} {t : TypeId} {k : IntKind} (ht : P.underlying t = some (.int k)) : Opn P t (Kd.int k) (fun n => (Lit.int k n).wf = true) := by
  intro H enc w base spare held fuel cs x h
  obtain ⟨n, rfl, _, hw⟩ := DataW.trod_int ht h
  exact ⟨n, rfl, hw⟩
theorem list_of {α : Type} {p : Nat → α → Prop} : ∀ {n : Nat}, (∀ i, i < n → ∃ a, p i a) → ∃ xs : List α, xs.length = n ∧ ∀ i a, xs[i]? = some a → p i a := by
  intro n
  induction n with
  | zero => intro _; exact ⟨[], rfl, fun i a h => by simp at h⟩
  | succ n ih =>
    intro h
    obtain ⟨xs, hl, hx⟩ := ih (fun i hi => h i (by omega))
    obtain ⟨a, ha⟩ := h n (by omega)
    refine ⟨xs ++ [a], by simp [hl], fun i b hb => ?_⟩
    rcases Nat.lt_or_ge i xs.length with hi | hi
    · rw [List.getElem?_append_left hi] at hb; exact hx i b hb
    · rw [List.getElem?_append_right hi] at hb
      have : i - xs.length = 0 := by
        rcases Nat.eq_zero_or_pos (i - xs.length) with h0 | h0
        · exact h0
        · rw [List.getElem?_eq_none (by simp; omega)] at hb; cases hb
      rw [this] at hb
      simp at hb
      subst hb
      rw [show i = n by omega]
      exact ha
theorem opn_slice {α : Type} {P : Program} {t e : TypeId} {d : Kd α} {G : α → Prop} (ht : P.underlying t = some (.slice e)) (hc : P.cellsOf e = d.sz) (h : Opn P e d G) : Opn P t (Kd.slice e d) (fun xs => xs.length ≤ 9223372036854775807 ∧ ∀ x ∈ xs, G x) := by
  intro H enc w base spare held fuel cs x hx
  rcases DataW.trod_slice ht hx with ⟨rfl, _⟩ | ⟨a, len, cap, elems, rest, n, _, rfl, _, hb, hl, hm, hlen, hel, _, _⟩
  · exact ⟨[], ⟨none, 0, rfl, Nat.le_refl _, ⟨rfl, by simp, fun h0 => absurd h0 (by simp)⟩⟩, by simp, fun x hx => by cases hx⟩
  · obtain ⟨xs, hxl, hxs⟩ := list_of (n := len) (p := fun i a' => (∃ c, w.cells? base (a.add (i * P.cellsOf e)) (P.cellsOf e) = some c ∧ d.K w a' c) ∧ G a') (fun i hi => by
      have he := hel i hi
      rw [List.getElem?_eq_getElem (show i < elems.length by omega)] at he
      obtain ⟨c, h1, h2⟩ := Option.bind_eq_some_iff.1 he
      obtain ⟨a', hk, hg⟩ := h enc w base spare held n c _ h2
      exact ⟨a', ⟨c, h1, hk⟩, hg⟩)
    have hxm : xs.length ≤ 9223372036854775807 := by rw [hxl]; have := hm; simp only [maxLen] at this; omega
    refine ⟨xs, ⟨some a, cap, by rw [hxl], by omega, ⟨rfl, hxm, fun _ => ⟨a, rfl, fun j p hj => ?_⟩⟩⟩, hxm, fun x hx => ?_⟩
    · obtain ⟨⟨c, h1, hk⟩, _⟩ := hxs j p hj
      obtain ⟨h2, h3, h4⟩ := World.cells?_some h1
      refine ⟨c, d.K_len hk, hk, fun i u hu => ?_⟩
      have hi : i < P.cellsOf e := by rw [← h3]; exact (List.getElem?_eq_some_iff.1 hu).1
      have := h4 i hi
      rw [Go.Deep.add_add, hu, hc] at this
      exact this
    · obtain ⟨i, hi, rfl⟩ := List.getElem_of_mem hx
      exact (hxs i _ (List.getElem?_eq_getElem hi)).2
theorem opn_iso {α β : Type} {P : Program} {t : TypeId} {d : Kd α} {G : α → Prop} {f : β → α} (g : α → β) (hg : ∀ a, f (g a) = a) (h : Opn P t d G) : Opn P t (Kd.iso d f) (fun b => G (f b)) := by
  intro H enc w base spare held fuel cs x hx
  obtain ⟨a, hk, ha⟩ := h enc w base spare held fuel cs x hx
  exact ⟨g a, by show d.K w (f (g a)) cs; rw [hg]; exact hk, by show G (f (g a)); rw [hg]; exact ha⟩
theorem opn_struct2 {α β : Type} {P : Program} {t : TypeId} {f0 f1 : Field} {d0 : Kd α} {d1 : Kd β} {G0 : α → Prop} {G1 : β → Prop} (ht : P.underlying t = some (.struct #[f0, f1]))
    (hs : ((f0.offset, P.cellsOf f0.type), (f1.offset, P.cellsOf f1.type), P.cellsOf t) = ((0, d0.sz), (d0.sz, d1.sz), d0.sz + d1.sz)) (h0 : Opn P f0.type d0 G0) (h1 : Opn P f1.type d1 G1) :
    Opn P t (Kd.pair d0 d1) (fun p => G0 p.1 ∧ G1 p.2) := by
  intro H enc w base spare held fuel cs x hx
  obtain ⟨y0, y1, n, _, hl, hf0, hf1⟩ := trod_struct2 ht hx
  simp only [Prod.mk.injEq] at hs
  obtain ⟨⟨a0, b0⟩, ⟨a1, b1⟩, c⟩ := hs
  rw [a0, b0] at hf0
  rw [a1, b1] at hf1
  obtain ⟨u0, k0, g0⟩ := h0 enc w base spare held n _ _ hf0
  obtain ⟨u1, k1, g1⟩ := h1 enc w base spare held n _ _ hf1
  refine ⟨(u0, u1), ⟨_, _, ?_, k0, k1⟩, g0, g1⟩
  rw [List.drop_zero, List.take_of_length_le (l := cs.drop d0.sz) (by simp; omega), List.take_append_drop]
theorem slice_came {α : Type} {P : Program} {t e : TypeId} {d : Kd α} {G : List α → Prop} (h : Opn P t (Kd.slice e d) G) {H : Type} {enc : TypeId × Value → H} {w : World} {base : Nat} {spare : Nat → Bool} {held : Bool} {dd : DataW H} {ps : List MemPlace} {A : Option Addr} {n c : Nat}
    (hd : DataW.Trod enc P w base spare held t (.slice A n c) dd ps) : ∃ xs, n = xs.length ∧ Kd.C d w A xs.length xs ∧ xs.length ≤ c ∧ G xs := by
  obtain ⟨fuel, hf⟩ := hd
  obtain ⟨xs, ⟨A', c', he, hl, hr⟩, hg⟩ := h enc w base spare held fuel _ _ hf
  simp [Value.cells] at he
  obtain ⟨rfl, rfl, rfl⟩ := he
  exact ⟨xs, rfl, hr, hl, hg⟩
end Go.Proofs.YtgoiifpimpnlpaaW.Opens

end
