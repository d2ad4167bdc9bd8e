/- within, kidsOf, cellOk by their contracts. -/
import Derived.Test.YtgoiifpimpnlpaaDoorHtermA
namespace Go.Proofs.YtgoiifpimpnlpaaDoor.PAll
open Go.RowKit Go.Proofs.YtgoiifpimpnlpaaDoorW.PrintWords Go.Proofs.YtgoiifpimpnlpaaDoorW.PrintLast Go.Proofs.YtgoiifpimpnlpaaDoorW.PrintMore
set_option linter.unusedVariables false
set_option linter.unusedSimpArgs false

theorem within_yes (n lo hi : Int) (w : World) (h0 : lo ≤ n) (h1 : n ≤ hi) : Calls Tryd.prog 89 #[.int .i64 n, .int .i64 lo, .int .i64 hi] w fun e w' => e = .returned (.bool true) ∧ w = w' := by
  have c0 : decide (lo ≤ n) = true := decide_eq_true h0
  have c1 : decide (n ≤ hi) = true := decide_eq_true h1
  clear h0 h1
  go_enter Tryd.func89, Tryd.ntmps89
  go_wp2
  go_ret
  exact ⟨rfl, rfl⟩
theorem within_no (n lo hi : Int) (w : World) (h : ¬ (lo ≤ n ∧ n ≤ hi)) : Calls Tryd.prog 89 #[.int .i64 n, .int .i64 lo, .int .i64 hi] w fun e w' => e = .returned (.bool false) ∧ w = w' := by
  by_cases h0 : lo ≤ n
  · have c0 : decide (lo ≤ n) = true := decide_eq_true h0
    have c1 : decide (n ≤ hi) = false := decide_eq_false (fun x => h ⟨h0, x⟩)
    clear h0 h
    go_enter Tryd.func89, Tryd.ntmps89
    go_wp2
    go_ret
    exact ⟨rfl, rfl⟩
  · have c0 : decide (lo ≤ n) = false := decide_eq_false h0
    clear h0 h
    go_enter Tryd.func89, Tryd.ntmps89
    go_wp2
    go_ret
    exact ⟨rfl, rfl⟩
theorem within_calls (n lo hi : Int) (w : World) : Calls Tryd.prog 89 #[.int .i64 n, .int .i64 lo, .int .i64 hi] w fun e w' => e = .returned (.bool (decide (lo ≤ n ∧ n ≤ hi))) ∧ w = w' := by
  by_cases h : lo ≤ n ∧ n ≤ hi
  · rw [decide_eq_true h]; exact within_yes n lo hi w h.1 h.2
  · rw [decide_eq_false h]; exact within_no n lo hi w h

/-- How many terms stand behind a kind; -1 of none. -/
def arI (k : Int) : Int := if k = 1 then 0 else if k = 2 then 0 else if k = 3 then 1 else if k = 4 then 2 else if k = 5 then 2 else if k = 7 then 2 else if k = 6 then 3 else -1

set_option maxRecDepth 100000 in
theorem kidsOf_calls (k : Int) (w : World) : Calls Tryd.prog 78 #[.int .i64 k] w fun e w' => e = .returned (.int .i64 (arI k)) ∧ w = w' := by
  by_cases h1 : k = 1
  · subst h1; go_enter Tryd.func78, Tryd.ntmps78; go_wp2; go_ret; exact ⟨rfl, rfl⟩
  by_cases h2 : k = 2
  · subst h2; go_enter Tryd.func78, Tryd.ntmps78; go_wp2; go_ret; exact ⟨rfl, rfl⟩
  by_cases h3 : k = 3
  · subst h3; go_enter Tryd.func78, Tryd.ntmps78; go_wp2; go_ret; exact ⟨rfl, rfl⟩
  by_cases h4 : k = 4
  · subst h4; go_enter Tryd.func78, Tryd.ntmps78; go_wp2; go_ret; exact ⟨rfl, rfl⟩
  by_cases h5 : k = 5
  · subst h5; go_enter Tryd.func78, Tryd.ntmps78; go_wp2; go_ret; exact ⟨rfl, rfl⟩
  by_cases h7 : k = 7
  · subst h7; go_enter Tryd.func78, Tryd.ntmps78; go_wp2; go_ret; exact ⟨rfl, rfl⟩
  by_cases h6 : k = 6
  · subst h6; go_enter Tryd.func78, Tryd.ntmps78; go_wp2; go_ret; exact ⟨rfl, rfl⟩
  have e : arI k = -1 := by simp [arI, h1, h2, h3, h4, h5, h6, h7]
  rw [e]
  have b1 : (k == 1) = false := by simp [h1]
  have b2 : (k == 2) = false := by simp [h2]
  have b3 : (k == 3) = false := by simp [h3]
  have b4 : (k == 4) = false := by simp [h4]
  have b5 : (k == 5) = false := by simp [h5]
  have b6 : (k == 6) = false := by simp [h6]
  have b7 : (k == 7) = false := by simp [h7]
  clear h1 h2 h3 h4 h5 h6 h7 e
  go_enter Tryd.func78, Tryd.ntmps78
  go_wp2
  go_ret
  exact ⟨rfl, rfl⟩

theorem arI_bd (k : Int) : -1 ≤ arI k ∧ arI k ≤ 3 := by unfold arI; repeat' split
                                                        all_goals omega

def cellB (x : S41) : Bool := if x.f0 = 1 then decide (0 ≤ x.f1 ∧ x.f1 ≤ 99) else if x.f0 = 2 then decide (-1000000 ≤ x.f1 ∧ x.f1 ≤ 1000000) else decide (0 < arI x.f0) && decide (x.f1 = 0)

set_option maxRecDepth 100000 in
theorem cellOk_calls (x : S41) (w : World) : Calls Tryd.prog 77 #[.agg #[.int .i64 x.f0, .int .i64 x.f1]] w fun e w' => e = .returned (.bool (cellB x)) ∧ Below w.heap.size w w' := by
  by_cases h1 : x.f0 = 1
  · have e : cellB x = decide (0 ≤ x.f1 ∧ x.f1 ≤ 99) := by simp [cellB, h1]
    have E := Lib.hid e
    have b1 : (x.f0 == 1) = true := by simp [h1]
    clear h1 e
    go_enter Tryd.func77, Tryd.ntmps77
    go_wp2_with (go_at_call 89; refine (within_calls _ _ _ _).mono ?_; rintro e w' ⟨rfl, rfl⟩)
    go_ret
    exact ⟨by rw [E.out]; first | rfl | simp, below_alloc (Below.refl _ _) _⟩
  have b1 : (x.f0 == 1) = false := by simp [h1]
  by_cases h2 : x.f0 = 2
  · have e : cellB x = decide (-1000000 ≤ x.f1 ∧ x.f1 ≤ 1000000) := by simp [cellB, h2]
    have E := Lib.hid e
    have b2 : (x.f0 == 2) = true := by simp [h2]
    clear h1 h2 e
    go_enter Tryd.func77, Tryd.ntmps77
    go_wp2_with (go_at_call 89; refine (within_calls _ _ _ _).mono ?_; rintro e w' ⟨rfl, rfl⟩)
    go_ret
    exact ⟨by rw [E.out]; first | rfl | simp, below_alloc (Below.refl _ _) _⟩
  have b2 : (x.f0 == 2) = false := by simp [h2]
  by_cases h3 : 0 < arI x.f0
  · have e : cellB x = (x.f1 == 0) := by simp only [cellB]; rw [if_neg h1, if_neg h2, decide_eq_true h3]; rfl
    have E := Lib.hid e
    clear h1 h2 e
    go_enter Tryd.func77, Tryd.ntmps77
    go_wp2_with (go_at_call 78; refine (kidsOf_calls _ _).mono ?_; rintro e w' ⟨rfl, rfl⟩)
    go_ret
    exact ⟨by rw [E.out]; first | rfl | simp, below_alloc (Below.refl _ _) _⟩
  · have e : cellB x = false := by simp only [cellB]; rw [if_neg h1, if_neg h2, decide_eq_false h3]; rfl
    rw [e]
    clear h1 h2 e
    go_enter Tryd.func77, Tryd.ntmps77
    go_wp2_with (go_at_call 78; refine (kidsOf_calls _ _).mono ?_; rintro e w' ⟨rfl, rfl⟩)
    go_ret
    exact ⟨rfl, below_alloc (Below.refl _ _) _⟩
end Go.Proofs.YtgoiifpimpnlpaaDoor.PAll
