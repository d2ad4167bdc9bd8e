/- The reference's reading of a type, and the program's typeEnd, find the tree that tparse tells. -/
import Derived.Test.YtjobjielgiojhaaQtypeA
namespace Go.Proofs.Ytjobjielgiojhaa.PAll
open Go.RowKit Go.Proofs.YtjobjielgiojhaaW.PrintWords Go.Proofs.YtjobjielgiojhaaW.PrintLast Go.Proofs.YtjobjielgiojhaaW.PrintMore
set_option linter.unusedVariables false
set_option linter.unusedSimpArgs false

inductive TT where
  | var (n : Int)
  | num
  | fn (a b : TT)

def tparse : Nat → List S125 → Option (TT × List S125)
  | 0, _ => none
  | _ + 1, [] => none
  | k + 1, x :: r =>
    if x.f0 = 1 ∧ 0 ≤ x.f1 ∧ x.f1 ≤ 30 then some (.var x.f1, r)
    else if x.f0 = 2 ∧ x.f1 = 0 then some (.num, r)
    else if x.f0 = 3 ∧ x.f1 = 0 then
      match tparse k r with
      | none => none
      | some (a, r1) => match tparse k r1 with
        | none => none
        | some (b, r2) => some (.fn a b, r2)
    else none

theorem tparse_len : ∀ (k : Nat) (l : List S125) (t : TT) (r : List S125), tparse k l = some (t, r) → r.length < l.length := by
  intro k
  induction k with
  | zero => intro l t r h; simp [tparse] at h
  | succ k ih =>
    intro l t r h
    cases l with
    | nil => simp [tparse] at h
    | cons x l =>
      simp only [tparse] at h
      split at h
      · simp at h; obtain ⟨_, rfl⟩ := h; simp
      · split at h
        · simp at h; obtain ⟨_, rfl⟩ := h; simp
        · split at h
          · cases h1 : tparse k l with
            | none => rw [h1] at h; simp at h
            | some p =>
              obtain ⟨a, r1⟩ := p
              rw [h1] at h
              simp only at h
              cases h2 : tparse k r1 with
              | none => rw [h2] at h; simp at h
              | some q =>
                obtain ⟨b, r2⟩ := q
                rw [h2] at h
                simp at h
                obtain ⟨_, rfl⟩ := h
                have := ih _ _ _ h1
                have := ih _ _ _ h2
                simp; omega
          · simp at h

/-- The reference's tree. -/
def tv : TT → S121
  | .var n => ⟨1, n, []⟩
  | .num => ⟨2, 0, []⟩
  | .fn a b => ⟨3, 0, [tv a, tv b]⟩

theorem l1In_eq (n lo hi : Int) : spec_l1In.f n lo hi = some (decide (lo ≤ n ∧ n ≤ hi)) := by
  unfold spec_l1In.f
  by_cases h : lo ≤ n <;> simp [h]
theorem within_eq (n lo hi : Int) : impl_within.f n lo hi = some (decide (lo ≤ n ∧ n ≤ hi)) := by
  unfold impl_within.f
  by_cases h : lo ≤ n <;> simp [h]

theorem rd125_drop (l : List S125) (i : Nat) (x : S125) (r : List S125) (h : l.drop i = x :: r) : rd_T125 l (i : Int) = x := by
  have : l[i]? = some x := by rw [← List.head?_drop, h]; rfl
  simp [rd_T125, List.getD_eq_getElem?_getD, this]

theorem l5Read_eq (l : List S125) (hm : l.length ≤ 1000) : ∀ (m : Nat) (i : Nat) (r : List S125), l.drop i = r → i ≤ l.length → r.length < m → ∀ k, 4 * m ≤ k →
    match tparse m r with
    | none => ∃ b n ks, spec_l5Read.f k l (i : Int) = some (b, n, ks, 0)
    | some (t, rest) => spec_l5Read.f k l (i : Int) = some ((tv t).f0, (tv t).f1, (tv t).f2, ((l.length - rest.length : Nat) : Int)) ∧ l.drop (l.length - rest.length) = rest := by
  intro m
  induction m with
  | zero => intro i r _ _ h; omega
  | succ m ih =>
    intro i r hr hi hrm k hk
    obtain ⟨k, rfl⟩ : ∃ q, k = q + 1 := ⟨k - 1, by omega⟩
    cases r with
    | nil =>
      have : l.length ≤ i := by have := congrArg List.length hr; simp at this; omega
      simp only [tparse]
      refine ⟨0, 0, [], ?_⟩
      simp only [spec_l5Read.f]
      rw [if_pos (by omega)]
    | cons x r =>
      have hlen : l.length - i = r.length + 1 := by have := congrArg List.length hr; simp at this; omega
      have hr1 : l.drop (i + 1) = r := by rw [← List.drop_drop, hr]; rfl
      have hx := rd125_drop l i x r hr
      have hS : spec_l5Read.f (k + 1) l (i : Int) = if x.f0 = 1 then (if decide (0 ≤ x.f1 ∧ x.f1 ≤ 30) = true then some (x.f0, x.f1, ([] : List S121), (i : Int) + 1) else some (0, 0, [], 0)) else if x.f0 = 2 then (if x.f1 = 0 then some (x.f0, x.f1, ([] : List S121), (i : Int) + 1) else some (0, 0, [], 0)) else if x.f0 = 3 then spec_l5Read.l0 k l ((i : Int) + 1) 0 x.f0 x.f1 x.f0 x.f1 [] else some (0, 0, [], 0) := by
        simp only [spec_l5Read.f]
        rw [if_neg (by omega), if_pos (by omega), if_pos (by omega), hx, wrap_id (by omega) (by omega)]
        simp only [l1In_eq, Option.bind_some]
      rw [hS]
      clear hS
      by_cases h1 : x.f0 = 1 ∧ 0 ≤ x.f1 ∧ x.f1 ≤ 30
      · have hc : tparse (m + 1) (x :: r) = some (.var x.f1, r) := by simp only [tparse]; rw [if_pos h1]
        rw [hc]
        obtain ⟨a1, a2, a3⟩ := h1
        rw [if_pos a1, if_pos (by simp [a2, a3])]
        have e1 : l.length - r.length = i + 1 := by omega
        refine ⟨by rw [e1]; simp [tv, a1], by rw [e1]; exact hr1⟩
      · by_cases h2 : x.f0 = 2 ∧ x.f1 = 0
        · have hc : tparse (m + 1) (x :: r) = some (.num, r) := by simp only [tparse]; rw [if_neg h1, if_pos h2]
          rw [hc]
          obtain ⟨a1, a2⟩ := h2
          rw [if_neg (by omega), if_pos a1, if_pos a2]
          have e1 : l.length - r.length = i + 1 := by omega
          refine ⟨by rw [e1]; simp [tv, a1, a2], by rw [e1]; exact hr1⟩
        · by_cases h3 : x.f0 = 3
          · rw [if_neg (by omega), if_neg (by omega), if_pos h3]
            have A := ih (i + 1) r hr1 (by omega) (by simp at hrm; omega)
            obtain ⟨k, rfl⟩ : ∃ q, k = q + 1 := ⟨k - 1, by omega⟩
            simp only [spec_l5Read.l0]
            rw [if_pos (by omega)]
            have A := A k (by omega)
            simp only [Int.natCast_add, Int.cast_ofNat_Int] at A
            by_cases h4 : x.f1 = 0
            · have hc : tparse (m + 1) (x :: r) = match tparse m r with
                  | none => none
                  | some (a, r1) => match tparse m r1 with
                    | none => none
                    | some (b, r2) => some (.fn a b, r2) := by simp only [tparse]; rw [if_neg h1, if_neg h2, if_pos ⟨h3, h4⟩]
              rw [hc]
              clear hc
              cases hq : tparse m r with
              | none =>
                rw [hq] at A
                obtain ⟨b, n, ks, A⟩ := A
                simp only [A, Option.bind_some, if_true]
                exact ⟨0, 0, [], rfl⟩
              | some q =>
                obtain ⟨ta, r1⟩ := q
                rw [hq] at A
                obtain ⟨A, A'⟩ := A
                have hl1 := tparse_len _ _ _ _ hq
                simp only [A, Option.bind_some]
                rw [if_neg (by omega), if_pos h4, if_pos (by simp), wrap_id (by omega) (by omega)]
                obtain ⟨k, rfl⟩ : ∃ q, k = q + 1 := ⟨k - 1, by omega⟩
                simp only [spec_l5Read.l0]
                rw [if_pos (by omega)]
                have B := ih (l.length - r1.length) r1 A' (by omega) (by simp at hrm; omega) k (by omega)
                cases hq2 : tparse m r1 with
                | none =>
                  rw [hq2] at B
                  obtain ⟨b, n, ks, B⟩ := B
                  simp only [B, Option.bind_some, if_true]
                  exact ⟨0, 0, [], rfl⟩
                | some q2 =>
                  obtain ⟨tb, r2⟩ := q2
                  rw [hq2] at B
                  obtain ⟨B, B'⟩ := B
                  have hl2 := tparse_len _ _ _ _ hq2
                  simp only [B, Option.bind_some]
                  rw [if_neg (by omega), if_pos h4, if_pos (by simp), wrap_id (by omega) (by omega)]
                  obtain ⟨k, rfl⟩ : ∃ q, k = q + 1 := ⟨k - 1, by omega⟩
                  simp only [spec_l5Read.l0]
                  rw [if_neg (by omega)]
                  refine ⟨?_, B'⟩
                  simp only [tv, List.nil_append, List.singleton_append, h3, h4]
                  cases hta : tv ta
                  cases htb : tv tb
                  rfl
            · have hc : tparse (m + 1) (x :: r) = none := by simp only [tparse]; rw [if_neg h1, if_neg h2, if_neg (fun z => h4 z.2)]
              rw [hc]
              clear hc
              cases hq : tparse m r with
              | none =>
                rw [hq] at A
                obtain ⟨b, n, ks, A⟩ := A
                simp only [A, Option.bind_some, if_true]
                exact ⟨0, 0, [], rfl⟩
              | some q =>
                obtain ⟨ta, r1⟩ := q
                rw [hq] at A
                obtain ⟨A, A'⟩ := A
                have hl1 := tparse_len _ _ _ _ hq
                simp only [A, Option.bind_some]
                rw [if_neg (by omega), if_neg h4]
                exact ⟨0, 0, [], rfl⟩
          · have hc : tparse (m + 1) (x :: r) = none := by simp only [tparse]; rw [if_neg h1, if_neg h2, if_neg (fun z => h3 z.1)]
            rw [hc]
            clear hc
            refine ⟨0, 0, [], ?_⟩
            by_cases a1 : x.f0 = 1
            · have a2 : ¬ (0 ≤ x.f1 ∧ x.f1 ≤ 30) := fun z => h1 ⟨a1, z.1, z.2⟩
              rw [if_pos a1, if_neg (by simpa using a2)]
            · rw [if_neg a1]
              by_cases a2 : x.f0 = 2
              · rw [if_pos a2, if_neg (fun z => h2 ⟨a2, z⟩)]
              · rw [if_neg a2, if_neg h3]

theorem typeEnd_neg (l : List S125) (i : Int) (h : i < 0) (k : Nat) (hk : 2 ≤ k) : impl_typeEnd.f k l i = some (-1) := by
  obtain ⟨k, rfl⟩ : ∃ q, k = q + 2 := ⟨k - 2, by omega⟩
  simp only [impl_typeEnd.f]
  rw [if_pos h]
  simp [impl_typeEnd.j0]

theorem typeEnd_eq (l : List S125) (hm : l.length ≤ 1000) : ∀ (m : Nat) (i : Nat) (r : List S125), l.drop i = r → i ≤ l.length → r.length < m → ∀ k, 5 * m ≤ k →
    match tparse m r with
    | none => impl_typeEnd.f k l (i : Int) = some (-1)
    | some (t, rest) => impl_typeEnd.f k l (i : Int) = some ((l.length - rest.length : Nat) : Int) ∧ l.drop (l.length - rest.length) = rest := by
  intro m
  induction m with
  | zero => intro i r _ _ h; omega
  | succ m ih =>
    intro i r hr hi hrm k hk
    obtain ⟨k, rfl⟩ : ∃ q, k = q + 5 := ⟨k - 5, by omega⟩
    cases r with
    | nil =>
      have : l.length ≤ i := by have := congrArg List.length hr; simp at this; omega
      simp only [tparse]
      simp only [impl_typeEnd.f]
      rw [if_neg (by omega)]
      have e : decide ((i : Int) ≥ (l.length : Int)) = true := by simp; omega
      rw [e]
      simp [impl_typeEnd.j0]
    | cons x r =>
      have hlen : l.length - i = r.length + 1 := by have := congrArg List.length hr; simp at this; omega
      have hr1 : l.drop (i + 1) = r := by rw [← List.drop_drop, hr]; rfl
      have hx := rd125_drop l i x r hr
      have hS : impl_typeEnd.f (k + 5) l (i : Int) = if x.f0 = 1 ∧ 0 ≤ x.f1 ∧ x.f1 ≤ 30 then some ((i : Int) + 1) else if x.f0 = 2 ∧ x.f1 = 0 then some ((i : Int) + 1) else if x.f0 = 3 ∧ x.f1 = 0 then (impl_typeEnd.f k l ((i : Int) + 1)).bind fun t => impl_typeEnd.f k l t else some (-1) := by
        simp only [impl_typeEnd.f]
        rw [if_neg (by omega)]
        have e : decide ((i : Int) ≥ (l.length : Int)) = false := by simp; omega
        rw [e]
        simp only [impl_typeEnd.j0, Bool.false_eq_true, if_false]
        rw [if_pos (by omega), if_pos (by omega), hx]
        simp only [within_eq, Option.bind_some, impl_typeEnd.j1, impl_typeEnd.j2, impl_typeEnd.j3]
        rw [wrap_id (by omega) (by omega)]
        by_cases a1 : x.f0 = 1
        · by_cases a2 : 0 ≤ x.f1 ∧ x.f1 ≤ 30
          · simp [a1, a2]
          · simp [a1, a2]
        · by_cases a2 : x.f0 = 2
          · by_cases a3 : x.f1 = 0
            · simp [a2, a3]
            · simp [a2, a3]
          · by_cases a3 : x.f0 = 3
            · by_cases a4 : x.f1 = 0
              · simp [a3, a4]
              · simp [a3, a4]
            · simp [a1, a2, a3]
      rw [hS]
      clear hS
      by_cases h1 : x.f0 = 1 ∧ 0 ≤ x.f1 ∧ x.f1 ≤ 30
      · have hc : tparse (m + 1) (x :: r) = some (.var x.f1, r) := by simp only [tparse]; rw [if_pos h1]
        rw [hc, if_pos h1]
        have e1 : l.length - r.length = i + 1 := by omega
        refine ⟨by rw [e1]; simp, by rw [e1]; exact hr1⟩
      · rw [if_neg h1]
        by_cases h2 : x.f0 = 2 ∧ x.f1 = 0
        · have hc : tparse (m + 1) (x :: r) = some (.num, r) := by simp only [tparse]; rw [if_neg h1, if_pos h2]
          rw [hc, if_pos h2]
          have e1 : l.length - r.length = i + 1 := by omega
          refine ⟨by rw [e1]; simp, by rw [e1]; exact hr1⟩
        · rw [if_neg h2]
          by_cases h3 : x.f0 = 3 ∧ x.f1 = 0
          · have hc : tparse (m + 1) (x :: r) = match tparse m r with
                | none => none
                | some (a, r1) => match tparse m r1 with
                  | none => none
                  | some (b, r2) => some (.fn a b, r2) := by simp only [tparse]; rw [if_neg h1, if_neg h2, if_pos h3]
            rw [hc, if_pos h3]
            clear hc
            have A := ih (i + 1) r hr1 (by omega) (by simp at hrm; omega) k (by omega)
            simp only [Int.natCast_add, Int.cast_ofNat_Int] at A
            cases hq : tparse m r with
            | none =>
              rw [hq] at A
              simp only at A
              rw [A]
              simp only [Option.bind_some]
              exact typeEnd_neg l _ (by omega) k (by simp at hrm; omega)
            | some q =>
              obtain ⟨ta, r1⟩ := q
              rw [hq] at A
              obtain ⟨A, A'⟩ := A
              have hl1 := tparse_len _ _ _ _ hq
              rw [A]
              simp only [Option.bind_some]
              have B := ih (l.length - r1.length) r1 A' (by omega) (by simp at hrm; omega) k (by omega)
              cases hq2 : tparse m r1 with
              | none => rw [hq2] at B; exact B
              | some q2 => obtain ⟨tb, r2⟩ := q2; rw [hq2] at B; exact B
          · have hc : tparse (m + 1) (x :: r) = none := by simp only [tparse]; rw [if_neg h1, if_neg h2, if_neg h3]
            rw [hc, if_neg h3]

/-- The tree of a good type. -/
def tof (l : List S125) : Option TT := if l.length ≤ 60 then match tparse 61 l with
  | some (t, []) => some t
  | _ => none
  else none

theorem l5Tree_eq (l : List S125) (k : Nat) (hk : 244 ≤ k) : match tof l with
    | none => ∃ b n ks, spec_l5Tree.f k l = some (b, n, ks, false)
    | some t => spec_l5Tree.f k l = some ((tv t).f0, (tv t).f1, (tv t).f2, true) := by
  by_cases h : l.length ≤ 60
  · have hS : spec_l5Tree.f k l = (spec_l5Read.f k l 0).bind fun bt164 => (if bt164.2.2.2 > 0 then (some (bt164.1, bt164.2.1, bt164.2.2.1, (bt164.2.2.2 == (l.length : Int)))) else (some (bt164.1, bt164.2.1, bt164.2.2.1, false))) := by
      unfold spec_l5Tree.f
      rw [if_neg (by omega)]
    rw [hS]
    clear hS
    have R := l5Read_eq l (by omega) 61 0 l rfl (by omega) (by omega) k (by omega)
    cases hq : tparse 61 l with
    | none =>
      rw [hq] at R
      obtain ⟨b, n, ks, R⟩ := R
      have hc : tof l = none := by simp [tof, h, hq]
      simp only [Int.cast_ofNat_Int] at R
      rw [R, hc]
      exact ⟨b, n, ks, by simp⟩
    | some q =>
      obtain ⟨t, r⟩ := q
      rw [hq] at R
      obtain ⟨R, R'⟩ := R
      have hl := tparse_len _ _ _ _ hq
      simp only [Int.cast_ofNat_Int] at R
      rw [R]
      simp only [Option.bind_some]
      rw [if_pos (by omega)]
      cases r with
      | nil =>
        have hc : tof l = some t := by simp [tof, h, hq]
        rw [hc]
        simp
      | cons x r =>
        have hc : tof l = none := by simp [tof, h, hq]
        rw [hc]
        refine ⟨(tv t).f0, (tv t).f1, (tv t).f2, ?_⟩
        simp at hl ⊢
        omega
  · have hc : tof l = none := by simp [tof, h]
    rw [hc]
    unfold spec_l5Tree.f
    rw [if_pos (by omega)]
    exact ⟨_, _, _, rfl⟩

theorem specGoodType_eq (l : List S125) (k : Nat) (hk : 244 ≤ k) : spec_GoodType.f k l = some (tof l).isSome := by
  have h := l5Tree_eq l k hk
  unfold spec_GoodType.f
  cases hq : tof l with
  | none => rw [hq] at h; obtain ⟨b, n, ks, h⟩ := h; rw [h]; rfl
  | some t => rw [hq] at h; simp only at h; rw [h]; rfl

theorem implGoodType_eq (l : List S125) (k : Nat) (hk : 305 ≤ k) : impl_GoodType.f k l = some (tof l).isSome := by
  unfold impl_GoodType.f
  by_cases h : l.length ≤ 60
  · rw [if_pos (by omega)]
    have R := typeEnd_eq l (by omega) 61 0 l rfl (by omega) (by omega) k (by omega)
    cases l with
    | nil => simp [tof, tparse]
    | cons x l =>
      rw [if_pos (by simp)]
      cases hq : tparse 61 (x :: l) with
      | none =>
        rw [hq] at R
        simp only [Int.cast_ofNat_Int] at R
        rw [R]
        have hc : tof (x :: l) = none := by simp only [tof]; rw [if_pos h, hq]
        rw [hc]
        simp only [Option.bind_some, Option.isSome_none, Option.some.injEq, beq_eq_false_iff_ne]
        omega
      | some q =>
        obtain ⟨t, r⟩ := q
        rw [hq] at R
        obtain ⟨R, R'⟩ := R
        have hl := tparse_len _ _ _ _ hq
        simp only [Int.cast_ofNat_Int] at R
        rw [R]
        cases r with
        | nil =>
          have hc : tof (x :: l) = some t := by simp only [tof]; rw [if_pos h, hq]
          rw [hc]
          simp
        | cons y r =>
          have hc : tof (x :: l) = none := by simp only [tof]; rw [if_pos h, hq]
          rw [hc]
          simp at hl ⊢
          omega
  · rw [if_neg (by omega)]
    have hc : tof l = none := by simp [tof, h]
    rw [hc]
    rfl
end Go.Proofs.Ytjobjielgiojhaa.PAll
