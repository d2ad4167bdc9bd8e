/- compOf and GoodComp by their contracts. -/
import Derived.Test.YtjnaokdncemggaaHcompB
namespace Go.Proofs.Ytjnaokdncemggaa.PAll
open Go.RowKit Go.Proofs.YtjnaokdncemggaaW.PrintWords Go.Proofs.YtjnaokdncemggaaW.PrintLast Go.Proofs.YtjnaokdncemggaaW.PrintMore
set_option linter.unusedVariables false
set_option linter.unusedSimpArgs false

/-- The tree of good cells. -/
def cof (l : List S83) : Option CT := if l.length ≤ 60 then match cparse 61 l with
  | some (t, []) => some t
  | _ => none
  else none

def COf (r : Option CT) (w : World) (e : Ending) (w' : World) : Prop :=
  Below w.heap.size w w' ∧ match r with
  | none => e = .returned (.pointer none)
  | some t => ∃ g, e = .returned (.pointer (some ⟨g, 0, none⟩)) ∧ CAt w' g t

set_option maxRecDepth 100000 in
theorem compOf_calls (l : List S83) (A : Option Addr) (c : Nat) (w : World) (hr : Kd.C k83 w A l.length l) (hc : l.length ≤ c) :
    Calls Try.prog 66 #[.slice A l.length c] w (COf (cof l) w) := by
  by_cases h60 : l.length ≤ 60
  · cases hq : cparse 61 l with
    | none =>
      have e : cof l = none := by simp [cof, h60, hq]
      rw [e]
      have HQ := Lib.hid hq
      clear hq e
      go_enter Try.func66, Try.ntmps66
      go_wp2_with (go_at_call 92; refine (compFrom_calls 61 l A c _ (by omega) hr hc).mono ?_; rw [HQ.out]; rintro e w1 ⟨hb, rfl⟩)
      go_ret
      exact ⟨hb, rfl⟩
    | some p =>
      obtain ⟨t, r⟩ := p
      cases r with
      | nil =>
        have e : cof l = some t := by simp [cof, h60, hq]
        rw [e]
        have HQ := Lib.hid hq
        clear hq e
        go_enter Try.func66, Try.ntmps66
        go_wp2_with (go_at_call 92; refine (compFrom_calls 61 l A c _ (by omega) hr hc).mono ?_; rw [HQ.out]; rintro e w1 ⟨hb, g, A1, c1, rfl, ha, hr1, hc1⟩; simp only [List.length_nil])
        go_ret
        exact ⟨hb, g, rfl, ha⟩
      | cons x r =>
        have e : cof l = none := by simp [cof, h60, hq]
        rw [e]
        have HQ := Lib.hid hq
        clear hq e
        go_enter Try.func66, Try.ntmps66
        go_wp2_with (go_at_call 92; refine (compFrom_calls 61 l A c _ (by omega) hr hc).mono ?_; rw [HQ.out]; rintro e w1 ⟨hb, g, A1, c1, rfl, ha, hr1, hc1⟩; simp only [List.length_cons])
        go_ret
        exact ⟨hb, rfl⟩
  · have e : cof l = none := by simp [cof, h60]
    rw [e]
    clear e
    have h61 : 60 < l.length := by omega
    clear h60
    go_enter Try.func66, Try.ntmps66
    go_wp2
    go_ret
    exact ⟨Below.refl _ _, rfl⟩

theorem GoodComp_calls (l : List S83) (A : Option Addr) (c : Nat) (w : World) (hr : Kd.C k83 w A l.length l) (hc : l.length ≤ c) :
    Calls Try.prog 21 #[.slice A l.length c] w fun e w' => e = .returned (.bool (cof l).isSome) ∧ Below w.heap.size w w' := by
  cases hq : cof l with
  | none =>
    have HQ := Lib.hid hq
    clear hq
    go_enter Try.func21, Try.ntmps21
    go_wp2_with (go_at_call 66; refine (compOf_calls l A c _ hr hc).mono ?_; rw [HQ.out]; rintro e w1 ⟨hb, rfl⟩)
    go_ret
    exact ⟨rfl, hb⟩
  | some t =>
    have HQ := Lib.hid hq
    clear hq
    go_enter Try.func21, Try.ntmps21
    go_wp2_with (go_at_call 66; refine (compOf_calls l A c _ hr hc).mono ?_; rw [HQ.out]; rintro e w1 ⟨hb, g, rfl, ha⟩)
    go_ret
    exact ⟨rfl, hb⟩
end Go.Proofs.Ytjnaokdncemggaa.PAll
