/- SizeAt by its contract: behind each cell of a good term stands a term. -/
import Derived.Test.YtgoiifpimpnlpaaHtermC
namespace Go.Proofs.Ytgoiifpimpnlpaa.PAll
open Go.RowKit Go.Proofs.YtgoiifpimpnlpaaW.PrintWords Go.Proofs.YtgoiifpimpnlpaaW.PrintLast Go.Proofs.YtgoiifpimpnlpaaW.PrintMore
set_option linter.unusedVariables false
set_option linter.unusedSimpArgs false

theorem mkids_congr {f g : List S66 → Option (Tm × List S66)} (hf : ∀ l t r, f l = some (t, r) → r.length < l.length) : ∀ m l, (∀ l', l'.length ≤ l.length → f l' = g l') → mkids f m l = mkids g m l := by
  intro m
  induction m with
  | zero => intro l h; rfl
  | succ m ih =>
    intro l h
    simp only [mkids]
    rw [← h l (Nat.le_refl _)]
    cases h1 : f l with
    | none => rfl
    | some p =>
      obtain ⟨t, r1⟩ := p
      have := hf _ _ _ h1
      simp only
      rw [ih r1 (fun l' hl' => h l' (by omega))]

/-- The fuel is no matter. -/
theorem mparse_fuel : ∀ (k q : Nat) (l : List S66), l.length < k → l.length < q → mparse k l = mparse q l := by
  intro k
  induction k with
  | zero => intro q l h; omega
  | succ k ih =>
    intro q l hk hq
    obtain ⟨q, rfl⟩ : ∃ m, q = m + 1 := ⟨q - 1, by omega⟩
    cases l with
    | nil => rfl
    | cons x l =>
      simp only [List.length_cons] at hk hq
      simp only [mparse]
      rw [mkids_congr (mparse_len k) _ l (fun l' hl' => ih q l' (by omega) (by omega))]

theorem mkids_app {f : List S66 → Option (Tm × List S66)} (hf : ∀ l t r, f l = some (t, r) → ∃ p, l = p ++ r) : ∀ m l ts r, mkids f m l = some (ts, r) → ∃ p, l = p ++ r := by
  intro m
  induction m with
  | zero => intro l ts r h; simp [mkids] at h; obtain ⟨rfl, rfl⟩ := h; exact ⟨[], rfl⟩
  | succ m ih =>
    intro l ts r h
    simp only [mkids] at h
    cases h1 : f l with
    | none => rw [h1] at h; simp at h
    | some p =>
      obtain ⟨t, r1⟩ := p
      rw [h1] at h
      simp only at h
      cases h2 : mkids f m r1 with
      | none => rw [h2] at h; simp at h
      | some q =>
        obtain ⟨ts', r2⟩ := q
        rw [h2] at h
        simp at h
        obtain ⟨rfl, rfl⟩ := h
        obtain ⟨p1, rfl⟩ := hf _ _ _ h1
        obtain ⟨p2, rfl⟩ := ih _ _ _ h2
        exact ⟨p1 ++ p2, by simp⟩

theorem mparse_app : ∀ (k : Nat) (l : List S66) (t : Tm) (r : List S66), mparse k l = some (t, r) → ∃ p, l = p ++ r := by
  intro k
  induction k with
  | zero => intro l t r h; simp [mparse] at h
  | succ k ih =>
    intro l t r h
    cases l with
    | nil => simp [mparse] at h
    | cons x l =>
      simp only [mparse] at h
      split at h
      · cases h1 : mkids (mparse k) (arI x.f0).toNat l with
        | none => rw [h1] at h; simp at h
        | some p =>
          obtain ⟨ts, r1⟩ := p
          rw [h1] at h
          simp at h
          obtain ⟨rfl, rfl⟩ := h
          obtain ⟨p, rfl⟩ := mkids_app ih _ _ _ _ h1
          exact ⟨x :: p, rfl⟩
      · simp at h

theorem mkids_at {k : Nat} (ih : ∀ l t r, mparse k l = some (t, r) → l.length < k → ∀ i, i + r.length < l.length → ∃ p, mparse k (l.drop i) = some p) : ∀ m l ts r, mkids (mparse k) m l = some (ts, r) → l.length < k → ∀ i, i + r.length < l.length → ∃ p, mparse k (l.drop i) = some p := by
  intro m
  induction m with
  | zero => intro l ts r h hl i hi; simp [mkids] at h; obtain ⟨rfl, rfl⟩ := h; omega
  | succ m ihm =>
    intro l ts r h hl i hi
    simp only [mkids] at h
    cases h1 : mparse k l with
    | none => rw [h1] at h; simp at h
    | some p =>
      obtain ⟨t, r1⟩ := p
      rw [h1] at h
      simp only at h
      cases h2 : mkids (mparse k) m r1 with
      | none => rw [h2] at h; simp at h
      | some q =>
        obtain ⟨ts', r2⟩ := q
        rw [h2] at h
        simp at h
        obtain ⟨rfl, rfl⟩ := h
        by_cases hc : i + r1.length < l.length
        · exact ih l t r1 h1 hl i hc
        · obtain ⟨p1, rfl⟩ := mparse_app _ _ _ _ h1
          simp only [List.length_append] at hc hl hi
          obtain ⟨j, rfl⟩ : ∃ j, i = p1.length + j := ⟨i - p1.length, by omega⟩
          have := ihm r1 ts' r2 h2 (by omega) j (by omega)
          have e : (p1 ++ r1).drop (p1.length + j) = r1.drop j := by rw [List.drop_append, List.drop_eq_nil_of_le (by omega)]; simp
          rw [e]
          exact this

theorem mparse_at : ∀ (k : Nat) (l : List S66) (t : Tm) (r : List S66), mparse k l = some (t, r) → l.length < k → ∀ i, i + r.length < l.length → ∃ p, mparse k (l.drop i) = some p := by
  intro k
  induction k with
  | zero => intro l t r h; simp [mparse] at h
  | succ k ih =>
    intro l t r h hl i hi
    cases i with
    | zero => exact ⟨_, h⟩
    | succ i =>
      cases l with
      | nil => simp [mparse] at h
      | cons x l =>
        simp only [mparse] at h
        simp only [List.length_cons] at hl hi
        split at h
        · cases h1 : mkids (mparse k) (arI x.f0).toNat l with
          | none => rw [h1] at h; simp at h
          | some p =>
            obtain ⟨ts, r1⟩ := p
            rw [h1] at h
            simp at h
            obtain ⟨rfl, rfl⟩ := h
            obtain ⟨p, hp⟩ := mkids_at ih _ _ _ _ h1 (by omega) i (by omega)
            refine ⟨p, ?_⟩
            rw [List.drop_succ_cons, ← hp]
            exact mparse_fuel _ _ _ (by simp; omega) (by simp; omega)
        · simp at h

theorem tmof_at {l : List S66} {t : Tm} (h : tmof l = some t) (i : Nat) (hi : i < l.length) : l.length ≤ 600 ∧ ∃ u r, mparse 601 (l.drop i) = some (u, r) := by
  unfold tmof at h
  split at h
  · rename_i h6
    split at h
    · rename_i h1
      obtain ⟨⟨u, r⟩, hp⟩ := mparse_at _ _ _ _ h1 (by omega) i (by simpa using hi)
      exact ⟨h6, u, r, hp⟩
    · cases h
  · cases h

/-- What SizeAt answers. -/
def sizeAtOf (l : List S66) (a : Int) : Int × Bool := if (tmof l).isSome = true then if 0 ≤ a ∧ a ≤ (l.length : Int) - 1 then match mparse 601 (l.drop a.toNat) with
      | some (t, _) => (t.size, true)
      | none => (0, false)
    else (0, false)
  else (0, false)

set_option maxRecDepth 100000 in
theorem SizeAt_calls (l : List S66) (a : Int) (A : Option Addr) (c : Nat) (w : World) (hr : Kd.C k66 w A l.length l) (hc : l.length ≤ c) :
    Calls Try.prog 19 #[.slice A l.length c, .int .i64 a] w fun e w' => e = .returned (.tuple #[.int .i64 (sizeAtOf l a).1, .bool (sizeAtOf l a).2]) ∧ Below w.heap.size w w' := by
  have HR := Lib.hid hr
  have hm := hr.2.1
  clear hr
  cases hq : tmof l with
  | none =>
    have e : sizeAtOf l a = (0, false) := by simp [sizeAtOf, hq]
    rw [e]
    have HQ := Lib.hid hq
    clear hq e
    go_enter Try.func19, Try.ntmps19
    go_wp2_with (go_at_call 16; refine (GoodTerm_calls l A c _ HR.out hc).mono ?_; rw [HQ.out]; rintro e w1 ⟨rfl, hb⟩)
    go_ret2
    exact ⟨rfl, hb⟩
  | some t =>
    by_cases ha : 0 ≤ a ∧ a ≤ (l.length : Int) - 1
    · obtain ⟨i, rfl⟩ : ∃ i : Nat, a = (i : Int) := ⟨a.toNat, by omega⟩
      have hi : i < l.length := by omega
      obtain ⟨h6, u, r, hp⟩ := tmof_at hq i hi
      have e : sizeAtOf l (i : Int) = (u.size, true) := by simp only [sizeAtOf, hq, Option.isSome_some, if_true]; rw [if_pos ha]; simp [hp]
      rw [e]
      obtain ⟨ad, hA⟩ : ∃ ad, A = some ad := by
        obtain ⟨ad, hA, _⟩ := at_T66 HR.out (i : Int) (by omega) (by omega)
        exact ⟨ad, hA⟩
      subst hA
      obtain ⟨A1, hd, hcut⟩ : ∃ A1, Kd.C k66 w A1 (l.drop i).length (l.drop i) ∧ ∀ W : World, (Instr.slice 25 (.slice (some ad) l.length c) (some (.int .i64 (i : Int))) none none).run Try.prog W = .ok (.slice A1 (l.drop i).length (c - i)) W := by
        have e := List.length_drop (i := i) (l := l)
        obtain ⟨i0, hi0, _, hsz, _⟩ := info_parts info66'
        refine ⟨_, by have h := Kd.C_drop (k := k66) (m := i) HR.out (by omega) hc; exact h, fun W => ?_⟩
        rw [cut_from (P := Try.prog) 25 66 .i64 Try.underlying25 hi0 2 hsz (some ad) l.length c i (by omega) (by omega), e]
        try rfl
      have hdl : (l.drop i).length < 601 := by simp; omega
      have hdc : (l.drop i).length ≤ c - i := by simp; omega
      obtain ⟨d, hdd⟩ : ∃ d, d = l.drop i := ⟨_, rfl⟩
      rw [← hdd] at hd hcut hdl hdc hp
      have HQ := Lib.hid hq
      have HP := Lib.hid hp
      have HD := Lib.hid hd
      obtain ⟨ha0, ha1⟩ := ha
      have ha' : 0 ≤ (i : Int) ∧ (i : Int) ≤ (l.length : Int) - 1 := ⟨ha0, ha1⟩
      have HDA := Lib.hid (decide_eq_true ha')
      clear hq e hp hd hdd ha'
      go_enter Try.func19, Try.ntmps19
      go_wp2_with fail
      refine (GoodTerm_calls l _ c _ HR.out hc).mono ?_
      rw [HQ.out]
      rintro e w1 ⟨rfl, hb⟩
      go_wp2_with (first | (go_at_call 53; refine (within_yes _ _ _ _ ha0 ha1).mono ?_; rintro e w' ⟨rfl, rfl⟩) | (go_at_call 54; refine (termFrom_calls 601 d A1 (c - i) w _ hdl hb HD.out hdc).mono ?_; rw [HP.out]; rintro e w2 ⟨hb2, g, A2, c2, rfl, hT, hr1, hc1⟩; have hs := hT.size_cell; unfold ptr))
      go_ret2
      exact ⟨rfl, below_step hb hb2⟩
    · have e : sizeAtOf l a = (0, false) := by simp only [sizeAtOf, hq, Option.isSome_some, if_true]; rw [if_neg ha]
      rw [e]
      have HQ := Lib.hid hq
      have HA := Lib.hid ha
      clear hq e ha
      go_enter Try.func19, Try.ntmps19
      go_wp2_with fail
      refine (GoodTerm_calls l A c _ HR.out hc).mono ?_
      rw [HQ.out]
      rintro e w1 ⟨rfl, hb⟩
      go_wp2_with (go_at_call 53; refine (within_no _ _ _ _ HA.out).mono ?_; rintro e w' ⟨rfl, rfl⟩)
      go_ret2
      exact ⟨rfl, hb⟩
end Go.Proofs.Ytgoiifpimpnlpaa.PAll
