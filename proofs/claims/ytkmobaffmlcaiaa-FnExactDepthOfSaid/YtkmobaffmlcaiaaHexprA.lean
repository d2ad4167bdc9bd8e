/- Expressions as trees in memory; what exprFrom makes of a row. -/
import Derived.Test.YtkmobaffmlcaiaaHwordA
import Derived.Test.YtkmobaffmlcaiaaPAllx3
namespace Go.Proofs.Ytkmobaffmlcaiaa.PAll
open Go.RowKit Go.Proofs.YtkmobaffmlcaiaaW.PrintWords Go.Proofs.YtkmobaffmlcaiaaW.PrintLast Go.Proofs.YtkmobaffmlcaiaaW.PrintMore
set_option linter.unusedVariables false
set_option linter.unusedSimpArgs false

inductive Xt where
  | leaf (k n : Int) (t : ByteArray)
  | one (k n : Int) (t : ByteArray) (a : Xt)
  | two (k n : Int) (t : ByteArray) (a b : Xt)

/-- The pointer to block g leads to the tree; all its blocks are at b or above. -/
def XAt (b : Nat) (w : World) : Nat → Xt → Prop
  | g, .leaf k n t => b ≤ g ∧ w.heap[g]? = some (.cells #[.int .i64 k, .int .i64 n, .string t, .pointer none, .pointer none] 75 (0, 0))
  | g, .one k n t a => ∃ p, b ≤ g ∧ w.heap[g]? = some (.cells #[.int .i64 k, .int .i64 n, .string t, .pointer (some ⟨p, 0, none⟩), .pointer none] 75 (0, 0)) ∧ XAt b w p a
  | g, .two k n t a c => ∃ p q, b ≤ g ∧ w.heap[g]? = some (.cells #[.int .i64 k, .int .i64 n, .string t, .pointer (some ⟨p, 0, none⟩), .pointer (some ⟨q, 0, none⟩)] 75 (0, 0)) ∧ XAt b w p a ∧ XAt b w q c

theorem XAt.step {b b' : Nat} {w w1 : World} (hm : ∀ k, b ≤ k → k < w.heap.size → w1.heap[k]? = w.heap[k]?) (hb : b' ≤ b) : ∀ {t : Xt} {g : Nat}, XAt b w g t → XAt b' w1 g t := by
  intro t
  induction t with
  | leaf k n t => intro g h; exact ⟨Nat.le_trans hb h.1, (hm _ h.1 (blk_lt h.2)).trans h.2⟩
  | one k n t a ih => intro g h; obtain ⟨p, h0, h1, h2⟩ := h; exact ⟨p, Nat.le_trans hb h0, (hm _ h0 (blk_lt h1)).trans h1, ih h2⟩
  | two k n t a c ih1 ih2 => intro g h; obtain ⟨p, q, h0, h1, h2, h3⟩ := h; exact ⟨p, q, Nat.le_trans hb h0, (hm _ h0 (blk_lt h1)).trans h1, ih1 h2, ih2 h3⟩
theorem XAt.below {b : Nat} {w w1 : World} {t : Xt} {g : Nat} (h : XAt b w g t) (hb : Below w.heap.size w w1) : XAt b w1 g t := XAt.step (fun k _ hk => hb.block k hk) (Nat.le_refl _) h
theorem XAt.lt {b : Nat} {w : World} {g : Nat} {t : Xt} (h : XAt b w g t) : g < w.heap.size := by
  cases t with
  | leaf => exact blk_lt h.2
  | one => obtain ⟨p, h0, h1, h2⟩ := h; exact blk_lt h1
  | two => obtain ⟨p, q, h0, h1, h2, h3⟩ := h; exact blk_lt h1

theorem xwithin_yes (n lo hi : Int) (w : World) (h0 : lo ≤ n) (h1 : n ≤ hi) : Calls Try.prog 32 #[.int .i64 n, .int .i64 lo, .int .i64 hi] w fun e w' => e = .returned (.bool true) ∧ w = w' := by
  have c0 : decide (lo ≤ n) = true := decide_eq_true h0
  have c1 : decide (n ≤ hi) = true := decide_eq_true h1
  clear h0 h1
  go_enter Try.func32, Try.ntmps32
  go_wp2
  go_ret
  exact ⟨rfl, rfl⟩
theorem xwithin_no (n lo hi : Int) (w : World) (h : ¬ (lo ≤ n ∧ n ≤ hi)) : Calls Try.prog 32 #[.int .i64 n, .int .i64 lo, .int .i64 hi] w fun e w' => e = .returned (.bool false) ∧ w = w' := by
  by_cases h0 : lo ≤ n
  · have c0 : decide (lo ≤ n) = true := decide_eq_true h0
    have c1 : decide (n ≤ hi) = false := decide_eq_false (fun x => h ⟨h0, x⟩)
    clear h0 h
    go_enter Try.func32, Try.ntmps32
    go_wp2
    go_ret
    exact ⟨rfl, rfl⟩
  · have c0 : decide (lo ≤ n) = false := decide_eq_false h0
    clear h0 h
    go_enter Try.func32, Try.ntmps32
    go_wp2
    go_ret
    exact ⟨rfl, rfl⟩

theorem ite_some {α : Type} {c : Prop} [Decidable c] {x y : Option α} (hx : ∃ r, x = some r) (hy : ∃ r, y = some r) : ∃ r, (if c then x else y) = some r := by
  split
  · exact hx
  · exact hy
theorem strength_some (s : ByteArray) : ∃ r, impl_StrengthOf.f 10 s = some r := by
  unfold impl_StrengthOf.f
  simp only [impl_StrengthOf.j0, impl_StrengthOf.j1, impl_StrengthOf.j2, impl_StrengthOf.j3]
  repeat' first
    | exact ⟨_, rfl⟩
    | refine ite_some ?_ ?_
def signB (s : ByteArray) : Bool := match impl_StrengthOf.f 10 s with
  | some (_, _, b) => b
  | none => false
theorem strength_sign (s : ByteArray) : ∃ n a, impl_StrengthOf.f 10 s = some (n, a, signB s) := by
  obtain ⟨⟨n, a, b⟩, h⟩ := strength_some s
  exact ⟨n, a, by unfold signB; rw [h]⟩

def noText (s : ByteArray) : Bool := s.toList.isEmpty

def xparse : Nat → List S60 → Option (Xt × List S60)
  | 0, _ => none
  | _ + 1, [] => none
  | k + 1, x :: r =>
    if x.f0 = 1 then (if (0 ≤ x.f1 ∧ x.f1 ≤ 999999999) ∧ noText x.f2 = true then some (.leaf x.f0 x.f1 x.f2, r) else none)
    else if x.f0 = 2 then (if x.f1 = 0 ∧ nameB x.f2 = true then some (.leaf x.f0 x.f1 x.f2, r) else none)
    else if x.f0 = 3 ∨ x.f0 = 4 then match xparse k r with
      | none => none
      | some (a, r1) => if x.f1 = 0 ∧ noText x.f2 = true then some (.one x.f0 x.f1 x.f2 a, r1) else none
    else if x.f0 = 5 then match xparse k r with
      | none => none
      | some (a, r1) => match xparse k r1 with
        | none => none
        | some (b, r2) => if signB x.f2 = true ∧ x.f1 = 0 then some (.two x.f0 x.f1 x.f2 a b, r2) else none
    else none

theorem xparse_len : ∀ (k : Nat) (l : List S60) (t : Xt) (r : List S60), xparse k l = some (t, r) → r.length < l.length ∧ ∀ x ∈ r, x ∈ l := by
  intro k
  induction k with
  | zero => intro l t r h; simp [xparse] at h
  | succ k ih =>
    intro l t r h
    cases l with
    | nil => simp [xparse] at h
    | cons x l =>
      simp only [xparse] at h
      split at h
      · split at h
        · simp at h; obtain ⟨_, rfl⟩ := h; exact ⟨by simp, fun x hx => List.mem_cons_of_mem _ hx⟩
        · cases h
      · split at h
        · split at h
          · simp at h; obtain ⟨_, rfl⟩ := h; exact ⟨by simp, fun x hx => List.mem_cons_of_mem _ hx⟩
          · cases h
        · split at h
          · cases h1 : xparse k l with
            | none => rw [h1] at h; simp at h
            | some p =>
              obtain ⟨a, r1⟩ := p
              rw [h1] at h
              simp only at h
              split at h
              · simp at h; obtain ⟨_, rfl⟩ := h
                have := ih _ _ _ h1
                exact ⟨by simp; omega, fun x hx => List.mem_cons_of_mem _ (this.2 x hx)⟩
              · cases h
          · split at h
            · cases h1 : xparse k l with
              | none => rw [h1] at h; simp at h
              | some p =>
                obtain ⟨a, r1⟩ := p
                rw [h1] at h
                simp only at h
                cases h2 : xparse k r1 with
                | none => rw [h2] at h; simp at h
                | some q =>
                  obtain ⟨b, r2⟩ := q
                  rw [h2] at h
                  simp only at h
                  split at h
                  · simp at h; obtain ⟨_, rfl⟩ := h
                    have i1 := ih _ _ _ h1
                    have i2 := ih _ _ _ h2
                    exact ⟨by simp; omega, fun x hx => List.mem_cons_of_mem _ (i1.2 x (i2.2 x hx))⟩
                  · cases h
            · cases h

/-- What exprFrom answers: a tree of new blocks; the rest is read where the argument was. -/
def XFrom (r : Option (Xt × List S60)) (w0 w : World) (e : Ending) (w' : World) : Prop :=
  Below w.heap.size w w' ∧ match r with
  | none => e = .returned (.tuple #[.pointer none, .slice none 0 0])
  | some (t, rest) => ∃ g A c, e = .returned (.tuple #[.pointer (some ⟨g, 0, none⟩), .slice A rest.length c]) ∧ XAt w.heap.size w' g t ∧ Kd.C k60 w0 A rest.length rest ∧ rest.length ≤ c
end Go.Proofs.Ytkmobaffmlcaiaa.PAll
