/- exprOf, GoodExpr, depth and DepthOf by their contracts. -/
import Derived.Test.YtkmobaffmlcaiaaHexprB
namespace Go.Proofs.Ytkmobaffmlcaiaa.PAll
open Go.RowKit Go.Proofs.YtkmobaffmlcaiaaW.PrintWords Go.Proofs.YtkmobaffmlcaiaaW.PrintLast Go.Proofs.YtkmobaffmlcaiaaW.PrintMore
attribute [local go_sem] max2_int min2_int max_two min_two
set_option linter.unusedVariables false
set_option linter.unusedSimpArgs false

/-- The tree of a good row. -/
def xof (l : List S60) : Option Xt := if l.length ≤ 40 then
  match xparse 41 l with
  | some (t, []) => some t
  | _ => none
  else none

def XOf (r : Option Xt) (w : World) (e : Ending) (w' : World) : Prop :=
  Below w.heap.size w w' ∧ match r with
  | none => e = .returned (.pointer none)
  | some t => ∃ g, e = .returned (.pointer (some ⟨g, 0, none⟩)) ∧ XAt w.heap.size w' g t

set_option maxRecDepth 100000 in
set_option maxHeartbeats 1000000 in
theorem exprOf_calls (l : List S60) (A : Option Addr) (c : Nat) (w : World) (hs : ∀ x ∈ l, x.f2.size ≤ maxLen) (hr : Kd.C k60 w A l.length l) (hc : l.length ≤ c) :
    Calls Try.prog 38 #[.slice A l.length c] w (XOf (xof l) w) := by
  have HR := Lib.hid hr
  have HS := Lib.hid hs
  clear hr hs
  by_cases h : l.length ≤ 40
  · have b1 : decide ((l.length : Int) > 40) = false := decide_eq_false (by omega)
    cases hq : xparse 41 l with
    | none =>
      have e : xof l = none := by unfold xof; rw [if_pos h, hq]
      rw [e]
      have HQ := Lib.hid hq
      clear e hq
      go_enter Try.func38, Try.ntmps38
      go_wp2_with (go_at_call 46; refine (exprFrom_calls w 41 l A c w (by omega) HS.out (Below.refl _ _) HR.out hc).mono ?_; rw [HQ.out]; rintro e w' ⟨hb, rfl⟩)
      go_ret
      exact ⟨hb, rfl⟩
    | some q =>
      obtain ⟨t, r⟩ := q
      have HQ := Lib.hid hq
      cases r with
      | nil =>
        have e : xof l = some t := by unfold xof; rw [if_pos h, hq]
        rw [e]
        clear e hq
        go_enter Try.func38, Try.ntmps38
        go_wp2_with (go_at_call 46; refine (exprFrom_calls w 41 l A c w (by omega) HS.out (Below.refl _ _) HR.out hc).mono ?_; rw [HQ.out]; rintro e w' ⟨hb, g, A1, c1, rfl, hg, _, _⟩)
        go_ret
        exact ⟨hb, g, rfl, hg⟩
      | cons y r =>
        have e : xof l = none := by unfold xof; rw [if_pos h, hq]
        rw [e]
        clear e hq
        have b2 : decide (((y :: r).length : Int) > 0) = true := decide_eq_true (by simp)
        go_enter Try.func38, Try.ntmps38
        go_wp2_with (go_at_call 46; refine (exprFrom_calls w 41 l A c w (by omega) HS.out (Below.refl _ _) HR.out hc).mono ?_; rw [HQ.out]; rintro e w' ⟨hb, g, A1, c1, rfl, hg, _, _⟩)
        go_ret
        exact ⟨hb, rfl⟩
  · have e : xof l = none := by unfold xof; rw [if_neg h]
    rw [e]
    have b1 : decide ((l.length : Int) > 40) = true := decide_eq_true (by omega)
    clear e
    go_enter Try.func38, Try.ntmps38
    go_wp2
    go_ret
    exact ⟨Below.refl _ _, rfl⟩

set_option maxRecDepth 100000 in
theorem GoodExpr_calls (l : List S60) (A : Option Addr) (c : Nat) (w : World) (hs : ∀ x ∈ l, x.f2.size ≤ maxLen) (hr : Kd.C k60 w A l.length l) (hc : l.length ≤ c) :
    Calls Try.prog 22 #[.slice A l.length c] w fun e w' => e = .returned (.bool (xof l).isSome) ∧ Below w.heap.size w w' := by
  have H := Lib.hid (exprOf_calls l A c w hs hr hc)
  cases hx : xof l with
  | none =>
    have HX := Lib.hid hx
    clear hx hs hr
    go_enter Try.func22, Try.ntmps22
    go_wp2_with (go_at_call 38; refine H.out.mono ?_; rw [HX.out]; rintro e w' ⟨hb, rfl⟩)
    go_ret
    exact ⟨rfl, hb⟩
  | some t =>
    have HX := Lib.hid hx
    clear hx hs hr
    go_enter Try.func22, Try.ntmps22
    go_wp2_with (go_at_call 38; refine H.out.mono ?_; rw [HX.out]; rintro e w' ⟨hb, g, rfl, hg⟩)
    go_ret
    exact ⟨rfl, hb⟩

def Xt.dep : Xt → Nat
  | .leaf _ _ _ => 1
  | .one _ _ _ a => 1 + a.dep
  | .two _ _ _ a b => 1 + max a.dep b.dep
def Xt.tall : Xt → Nat
  | .leaf _ _ _ => 1
  | .one _ _ _ a => 1 + a.tall
  | .two _ _ _ a b => 1 + a.tall + b.tall

theorem tall_le (t : Xt) : 1 ≤ t.dep ∧ t.dep ≤ t.tall := by
  induction t with
  | leaf => simp [Xt.dep, Xt.tall]
  | one k n t a ih => simp only [Xt.dep, Xt.tall]; omega
  | two k n t a b iha ihb => simp only [Xt.dep, Xt.tall]; omega

def depthOf (l : List S60) : Int × Bool := match xof l with
  | some t => (t.dep, true)
  | none => (0, false)

theorem xparse_tall : ∀ (k : Nat) (l : List S60) (t : Xt) (r : List S60), xparse k l = some (t, r) → t.tall + r.length ≤ l.length := by
  intro k
  induction k with
  | zero => intro l t r h; simp [xparse] at h
  | succ k ih =>
    intro l t r h
    cases l with
    | nil => simp [xparse] at h
    | cons x l =>
      simp only [xparse] at h
      split at h
      · split at h
        · simp at h; obtain ⟨rfl, rfl⟩ := h; simp [Xt.tall]; omega
        · cases h
      · split at h
        · split at h
          · simp at h; obtain ⟨rfl, rfl⟩ := h; simp [Xt.tall]; omega
          · cases h
        · split at h
          · cases h1 : xparse k l with
            | none => rw [h1] at h; simp at h
            | some p =>
              obtain ⟨a, r1⟩ := p
              rw [h1] at h
              simp only at h
              split at h
              · simp at h; obtain ⟨rfl, rfl⟩ := h
                have := ih _ _ _ h1
                simp [Xt.tall]; omega
              · cases h
          · split at h
            · cases h1 : xparse k l with
              | none => rw [h1] at h; simp at h
              | some p =>
                obtain ⟨a, r1⟩ := p
                rw [h1] at h
                simp only at h
                cases h2 : xparse k r1 with
                | none => rw [h2] at h; simp at h
                | some q =>
                  obtain ⟨b, r2⟩ := q
                  rw [h2] at h
                  simp only at h
                  split at h
                  · simp at h; obtain ⟨rfl, rfl⟩ := h
                    have i1 := ih _ _ _ h1
                    have i2 := ih _ _ _ h2
                    simp [Xt.tall]; omega
                  · cases h
            · cases h

theorem xof_tall {l : List S60} {t : Xt} (h : xof l = some t) : t.tall ≤ 40 ∧ xparse 41 l = some (t, []) ∧ l.length ≤ 40 := by
  unfold xof at h
  split at h
  · split at h
    · rename_i h1
      injection h with h
      subst h
      have := xparse_tall _ _ _ _ h1
      exact ⟨by omega, h1, by assumption⟩
    · cases h
  · cases h

end Go.Proofs.Ytkmobaffmlcaiaa.PAll
