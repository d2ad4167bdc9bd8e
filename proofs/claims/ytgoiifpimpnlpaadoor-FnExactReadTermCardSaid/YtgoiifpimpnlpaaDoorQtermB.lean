/- The reference's reading of a term finds the tree that mparse tells. -/
import Derived.Test.YtgoiifpimpnlpaaDoorQtermA
import Derived.Test.YtgoiifpimpnlpaaDoorHtermA
import Derived.Test.YtgoiifpimpnlpaaDoorHtermB
import Derived.Test.YtgoiifpimpnlpaaDoorHtermC
import Derived.Test.YtgoiifpimpnlpaaDoorPAllx2
import Derived.Test.YtgoiifpimpnlpaaDoorPAllx4
import Derived.Test.YtgoiifpimpnlpaaDoorPAllx5
import Derived.Test.YtgoiifpimpnlpaaDoorPAllx6
namespace Go.Proofs.YtgoiifpimpnlpaaDoor.PAll
open Go.RowKit Go.Proofs.YtgoiifpimpnlpaaDoorW.PrintWords Go.Proofs.YtgoiifpimpnlpaaDoorW.PrintLast Go.Proofs.YtgoiifpimpnlpaaDoorW.PrintMore
set_option linter.unusedVariables false
set_option linter.unusedSimpArgs false

mutual
/-- The reference's tree. -/
def tv : Tm → S63
  | .mk k n ks => ⟨k, n, tvs ks⟩
def tvs : List Tm → List S63
  | [] => []
  | t :: ts => tv t :: tvs ts
end
theorem tvs_map (ts : List Tm) : tvs ts = ts.map tv := by
  induction ts with
  | nil => rfl
  | cons t ts ih => simp [tvs, ih]

theorem l1In_eq (n lo hi : Int) : spec_l1In.f n lo hi = some (decide (lo ≤ n ∧ n ≤ hi)) := by
  unfold spec_l1In.f
  by_cases h : lo ≤ n <;> simp [h]

theorem arity_eq (x : Int) (k : Nat) (hk : 2 ≤ k) : spec_l3Arity.f k x = some (arI x) := by
  obtain ⟨k, rfl⟩ : ∃ q, k = q + 2 := ⟨k - 2, by omega⟩
  simp only [spec_l3Arity.f, spec_l3Arity.j0, spec_l3Arity.j1, arI]
  by_cases h1 : x = 1
  · subst h1; rfl
  by_cases h2 : x = 2
  · subst h2; rfl
  by_cases h3 : x = 3
  · subst h3; rfl
  by_cases h4 : x = 4
  · subst h4; rfl
  by_cases h5 : x = 5
  · subst h5; rfl
  by_cases h7 : x = 7
  · subst h7; rfl
  by_cases h6 : x = 6
  · subst h6; rfl
  simp [h1, h2, h3, h4, h5, h6, h7]

theorem cell_eq (x : S41) (k : Nat) (hk : 2 ≤ k) : spec_l3Cell.f k x.f0 x.f1 = some (cellB x) := by
  unfold spec_l3Cell.f cellB
  rw [l1In_eq, l1In_eq, arity_eq _ k hk]
  by_cases h1 : x.f0 = 1
  · simp [h1]
  · by_cases h2 : x.f0 = 2
    · simp [h2]
    · rw [if_neg h1, if_neg h2, if_neg h1, if_neg h2]
      by_cases h3 : x.f1 = 0
      · simp [h3]
      · simp [h3]

theorem rd66_drop (l : List S41) (i : Nat) (x : S41) (r : List S41) (h : l.drop i = x :: r) : rd_T41 l (i : Int) = x := by
  have : l[i]? = some x := by rw [← List.head?_drop, h]; rfl
  simp [rd_T41, List.getD_eq_getElem?_getD, this]

/-- What the reference's reading must tell. -/
def ReadsAs (l : List S41) (r : Option (Tm × List S41)) (o : Option (Int × Int × List S63 × Int)) : Prop :=
  match r with
  | none => ∃ a b c, o = some (a, b, c, 0)
  | some (t, rest) => o = some ((tv t).f0, (tv t).f1, (tv t).f2, ((l.length - rest.length : Nat) : Int)) ∧ l.drop (l.length - rest.length) = rest

theorem l3Kids_eq (l : List S41) (hm : l.length ≤ 1000) (m : Nat) (ih : ∀ (i : Nat) (r : List S41), l.drop i = r → i ≤ l.length → r.length < m → ∀ k, 6 * m ≤ k → ReadsAs l (mparse m r) (spec_l3Read.f k l (i : Int))) (a0 a1 : Int) :
    ∀ (q i : Nat) (r : List S41) (acc : List S63), l.drop i = r → i ≤ l.length → r.length < m → acc.length + q ≤ 10 → 1 ≤ i → ∀ k, 6 * m + q + 1 ≤ k →
    match mkids (mparse m) q r with
    | none => ∃ a b c, spec_l3Read.l0 k l (i : Int) (q : Int) a0 a1 acc = some (a, b, c, 0)
    | some (ts, rest) => spec_l3Read.l0 k l (i : Int) (q : Int) a0 a1 acc = some (a0, a1, acc ++ tvs ts, ((l.length - rest.length : Nat) : Int)) ∧ l.drop (l.length - rest.length) = rest := by
  intro q
  induction q with
  | zero =>
    intro i r acc hr hi hrm ha h1 k hk
    obtain ⟨k, rfl⟩ : ∃ q, k = q + 1 := ⟨k - 1, by omega⟩
    have hlen : r.length = l.length - i := by rw [← hr]; simp
    simp only [mkids, tvs, List.append_nil]
    have e : l.length - r.length = i := by omega
    rw [e]
    refine ⟨?_, hr⟩
    simp only [spec_l3Read.l0]
    rw [if_neg (by omega)]
  | succ q ihq =>
    intro i r acc hr hi hrm ha h1 k hk
    obtain ⟨k, rfl⟩ : ∃ q, k = q + 1 := ⟨k - 1, by omega⟩
    have hS : spec_l3Read.l0 (k + 1) l (i : Int) ((q + 1 : Nat) : Int) a0 a1 acc = (spec_l3Read.f k l (i : Int)).bind fun bt112 => (if bt112.2.2.2 = 0 then (some (0, 0, ([] : List (S63)), 0)) else (if acc.length < 3518437208883 then (spec_l3Read.l0 k l bt112.2.2.2 (q : Int) a0 a1 (acc ++ [(⟨bt112.1, bt112.2.1, bt112.2.2.1⟩ : S63)])) else (none))) := by
      simp only [spec_l3Read.l0]
      rw [if_pos (by omega), wrap_id (by omega) (by omega), show ((q + 1 : Nat) : Int) - 1 = (q : Int) by omega]
    rw [hS]
    clear hS
    have A := ih i r hr hi hrm k (by omega)
    simp only [mkids]
    cases hq : mparse m r with
    | none =>
      rw [hq] at A
      obtain ⟨a, b, c, A⟩ := A
      simp only [A, Option.bind_some, if_true]
      exact ⟨0, 0, [], rfl⟩
    | some p =>
      obtain ⟨t, r1⟩ := p
      rw [hq] at A
      obtain ⟨A, A'⟩ := A
      have hl1 := mparse_len _ _ _ _ hq
      have hlen : r.length = l.length - i := by rw [← hr]; simp
      simp only [A, Option.bind_some]
      rw [if_neg (by omega), if_pos (by omega)]
      have B := ihq (l.length - r1.length) r1 (acc ++ [(⟨(tv t).f0, (tv t).f1, (tv t).f2⟩ : S63)]) A' (by omega) (by omega) (by simp; omega) (by omega) k (by omega)
      cases hq2 : mkids (mparse m) q r1 with
      | none => rw [hq2] at B; exact B
      | some p2 =>
        obtain ⟨ts, r2⟩ := p2
        rw [hq2] at B
        obtain ⟨B, B'⟩ := B
        refine ⟨?_, B'⟩
        rw [B]
        simp only [tvs, List.append_assoc, List.singleton_append]
        cases tv t
        rfl

theorem l3Read_eq (l : List S41) (hm : l.length ≤ 1000) : ∀ (m : Nat) (i : Nat) (r : List S41), l.drop i = r → i ≤ l.length → r.length < m → ∀ k, 6 * m ≤ k → ReadsAs l (mparse m r) (spec_l3Read.f k l (i : Int)) := by
  intro m
  induction m with
  | zero => intro i r _ _ h; omega
  | succ m ih =>
    intro i r hr hi hrm k hk
    obtain ⟨k, rfl⟩ : ∃ q, k = q + 2 := ⟨k - 2, by omega⟩
    cases r with
    | nil =>
      have : l.length ≤ i := by have := congrArg List.length hr; simp at this; omega
      simp only [mparse, ReadsAs]
      refine ⟨0, 0, [], ?_⟩
      simp only [spec_l3Read.f]
      rw [if_pos (by omega)]
      simp [spec_l3Read.j0]
    | cons x r =>
      have hlen : l.length - i = r.length + 1 := by have := congrArg List.length hr; simp at this; omega
      have hr1 : l.drop (i + 1) = r := by rw [← List.drop_drop, hr]; rfl
      have hx := rd66_drop l i x r hr
      have hm1 : r.length < m := by simp at hrm; omega
      have hS : spec_l3Read.f (k + 2) l (i : Int) = if cellB x = true then spec_l3Read.l0 k l ((i : Int) + 1) (arI x.f0) x.f0 x.f1 [] else some (0, 0, [], 0) := by
        simp only [spec_l3Read.f]
        rw [if_neg (by omega), if_pos (by omega), if_pos (by omega), hx, cell_eq x (k + 1) (by omega)]
        simp only [Option.bind_some, spec_l3Read.j0]
        cases hb : cellB x with
        | false => simp
        | true =>
          simp only [Bool.not_true, Bool.false_eq_true, if_false, if_true]
          rw [if_pos (by omega), if_pos (by omega), hx, arity_eq _ k (by omega), wrap_id (by omega) (by omega)]
          rfl
      rw [hS]
      clear hS
      cases hb : cellB x with
      | false =>
        have hc : mparse (m + 1) (x :: r) = none := by simp only [mparse]; rw [if_neg (by simp [hb])]
        rw [hc, if_neg (by simp)]
        exact ⟨0, 0, [], rfl⟩
      | true =>
        rw [if_pos rfl]
        have ha : 0 ≤ arI x.f0 := by
          unfold cellB at hb
          split at hb
          · simp [arI, *]
          · split at hb
            · simp [arI, *]
            · simp at hb; omega
        have ha3 := arI_bd x.f0
        obtain ⟨a, haa⟩ : ∃ a : Nat, arI x.f0 = (a : Int) := ⟨(arI x.f0).toNat, by omega⟩
        have hp : mparse (m + 1) (x :: r) = match mkids (mparse m) a r with
            | none => none
            | some (ts, r') => some (.mk x.f0 x.f1 ts, r') := by simp only [mparse]; rw [if_pos hb, haa]; rfl
        rw [hp, haa]
        have K := l3Kids_eq l hm m ih x.f0 x.f1 a (i + 1) r [] hr1 (by omega) hm1 (by simp; omega) (by omega) k (by omega)
        simp only [Int.natCast_add, Int.cast_ofNat_Int] at K
        cases hq : mkids (mparse m) a r with
        | none =>
          rw [hq] at K
          exact K
        | some p =>
          obtain ⟨ts, r1⟩ := p
          rw [hq] at K
          obtain ⟨K, K'⟩ := K
          refine ⟨?_, K'⟩
          rw [K]
          simp [tv]

/-- The reference's tree of good cells: as tmof tells. -/
theorem l3Tree_eq (l : List S41) (k : Nat) (hk : 3606 ≤ k) : match tmof l with
    | none => ∃ b n ks, spec_l3Tree.f k l = some (b, n, ks, false)
    | some t => spec_l3Tree.f k l = some ((tv t).f0, (tv t).f1, (tv t).f2, true) := by
  by_cases h : l.length ≤ 600
  · have hS : spec_l3Tree.f k l = (spec_l3Read.f k l 0).bind fun bt164 => (if bt164.2.2.2 > 0 then (some (bt164.1, bt164.2.1, bt164.2.2.1, (bt164.2.2.2 == (l.length : Int)))) else (some (bt164.1, bt164.2.1, bt164.2.2.1, false))) := by
      unfold spec_l3Tree.f
      rw [if_neg (by omega)]
    rw [hS]
    clear hS
    have R := l3Read_eq l (by omega) 601 0 l rfl (by omega) (by omega) k (by omega)
    cases hq : mparse 601 l with
    | none =>
      rw [hq] at R
      obtain ⟨b, n, ks, R⟩ := R
      have hc : tmof l = none := by simp [tmof, h, hq]
      simp only [Int.cast_ofNat_Int] at R
      rw [R, hc]
      exact ⟨b, n, ks, by simp⟩
    | some q =>
      obtain ⟨t, r⟩ := q
      rw [hq] at R
      obtain ⟨R, R'⟩ := R
      have hl := mparse_len _ _ _ _ hq
      simp only [Int.cast_ofNat_Int] at R
      rw [R]
      simp only [Option.bind_some]
      rw [if_pos (by omega)]
      cases r with
      | nil =>
        have hc : tmof l = some t := by simp [tmof, h, hq]
        rw [hc]
        simp
      | cons x r =>
        have hc : tmof l = none := by simp [tmof, h, hq]
        rw [hc]
        refine ⟨(tv t).f0, (tv t).f1, (tv t).f2, ?_⟩
        simp at hl ⊢
        omega
  · have hc : tmof l = none := by simp [tmof, h]
    rw [hc]
    unfold spec_l3Tree.f
    rw [if_pos (by omega)]
    exact ⟨_, _, _, rfl⟩

theorem GoodTerm_eq (l : List S41) (k : Nat) (hk : 3606 ≤ k) : spec_GoodTerm.f k l = some (tmof l).isSome := by
  have h := l3Tree_eq l k hk
  unfold spec_GoodTerm.f
  cases hq : tmof l with
  | none => rw [hq] at h; obtain ⟨b, n, ks, h⟩ := h; rw [h]; rfl
  | some t => rw [hq] at h; simp only at h; rw [h]; rfl
end Go.Proofs.YtgoiifpimpnlpaaDoor.PAll
