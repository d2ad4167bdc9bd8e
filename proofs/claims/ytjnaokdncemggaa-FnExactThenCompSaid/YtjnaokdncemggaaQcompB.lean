/- The reference's reading of a computation finds the tree that cparse tells. -/
import Derived.Test.YtjnaokdncemggaaQcompA
import Derived.Test.YtjnaokdncemggaaHcompA
import Derived.Test.YtjnaokdncemggaaHcompB
import Derived.Test.YtjnaokdncemggaaHcompD
import Derived.Test.YtjnaokdncemggaaPAllx11
import Derived.Test.YtjnaokdncemggaaPAllx12
import Derived.Test.YtjnaokdncemggaaPAllx2
namespace Go.Proofs.Ytjnaokdncemggaa.PAll
open Go.RowKit Go.Proofs.YtjnaokdncemggaaW.PrintWords Go.Proofs.YtjnaokdncemggaaW.PrintLast Go.Proofs.YtjnaokdncemggaaW.PrintMore

/-- The reference's tree. -/
def cv : CT → S93
  | .ret n => ⟨false, n, []⟩
  | .ask n a b => ⟨true, n, [cv a, cv b]⟩

theorem l1In_eq (n lo hi : Int) : spec_l1In.f n lo hi = some (decide (lo ≤ n ∧ n ≤ hi)) := by
  unfold spec_l1In.f
  by_cases h : lo ≤ n <;> simp [h]

theorem rd83_drop (l : List S83) (i : Nat) (x : S83) (r : List S83) (h : l.drop i = x :: r) : rd_T83 l (i : Int) = x := by
  have : l[i]? = some x := by rw [← List.head?_drop, h]; rfl
  simp [rd_T83, List.getD_eq_getElem?_getD, this]

theorem l9Read_eq (l : List S83) (hm : l.length ≤ 1000) : ∀ (m : Nat) (i : Nat) (r : List S83), l.drop i = r → i ≤ l.length → r.length < m → ∀ k, 4 * m ≤ k →
    match cparse m r with
    | none => ∃ b n ks, spec_l9Read.f k l (i : Int) = some (b, n, ks, 0)
    | some (t, rest) => spec_l9Read.f k l (i : Int) = some ((cv t).f0, (cv t).f1, (cv t).f2, ((l.length - rest.length : Nat) : Int)) ∧ l.drop (l.length - rest.length) = rest := by
  intro m
  induction m with
  | zero => intro i r _ _ h; omega
  | succ m ih =>
    intro i r hr hi hrm k hk
    obtain ⟨k, rfl⟩ : ∃ q, k = q + 1 := ⟨k - 1, by omega⟩
    cases r with
    | nil =>
      have : l.length ≤ i := by have := congrArg List.length hr; simp at this; omega
      simp only [cparse]
      refine ⟨false, 0, [], ?_⟩
      simp only [spec_l9Read.f]
      rw [if_pos (by omega)]
    | cons x r =>
      have hlen : l.length - i = r.length + 1 := by have := congrArg List.length hr; simp at this; omega
      have hr1 : l.drop (i + 1) = r := by rw [← List.drop_drop, hr]; rfl
      have hx := rd83_drop l i x r hr
      have hS : spec_l9Read.f (k + 1) l (i : Int) = if x.f0 = 1 then (if decide (0 ≤ x.f1 ∧ x.f1 ≤ 99) = true then some (false, x.f1, ([] : List S93), (i : Int) + 1) else some (false, 0, [], 0)) else if x.f0 = 2 then (if decide (0 ≤ x.f1 ∧ x.f1 ≤ 2) = true then spec_l9Read.l0 k l ((i : Int) + 1) 0 true x.f1 [] else some (false, 0, [], 0)) else some (false, 0, [], 0) := by
        simp only [spec_l9Read.f]
        rw [if_neg (by omega), if_pos (by omega), if_pos (by omega), hx, wrap_id (by omega) (by omega)]
        simp only [l1In_eq, Option.bind_some]
      rw [hS]
      clear hS
      by_cases h1 : x.f0 = 1 ∧ 0 ≤ x.f1 ∧ x.f1 ≤ 99
      · have hc : cparse (m + 1) (x :: r) = some (.ret x.f1, r) := by simp only [cparse]; rw [if_pos h1]
        rw [hc]
        obtain ⟨a1, a2, a3⟩ := h1
        rw [if_pos a1, if_pos (by simp [a2, a3])]
        have e1 : l.length - r.length = i + 1 := by omega
        refine ⟨by rw [e1]; simp [cv], by rw [e1]; exact hr1⟩
      · by_cases h2 : x.f0 = 2 ∧ 0 ≤ x.f1 ∧ x.f1 ≤ 2
        · have hc : cparse (m + 1) (x :: r) = match cparse m r with
              | none => none
              | some (a, r1) => match cparse m r1 with
                | none => none
                | some (b, r2) => some (.ask x.f1 a b, r2) := by simp only [cparse]; rw [if_neg h1, if_pos h2]; rfl
          rw [hc]
          clear hc
          obtain ⟨a1, a2, a3⟩ := h2
          rw [if_neg (by omega), if_pos a1, if_pos (by simp [a2, a3])]
          obtain ⟨k, rfl⟩ : ∃ q, k = q + 1 := ⟨k - 1, by omega⟩
          simp only [spec_l9Read.l0]
          rw [if_pos (by omega)]
          have A := ih (i + 1) r hr1 (by omega) (by simp at hrm; omega) k (by omega)
          simp only [Int.natCast_add, Int.cast_ofNat_Int] at A
          cases hq : cparse m r with
          | none =>
            rw [hq] at A
            obtain ⟨b, n, ks, A⟩ := A
            simp only [A, Option.bind_some, if_true]
            exact ⟨false, 0, [], rfl⟩
          | some q =>
            obtain ⟨ta, r1⟩ := q
            rw [hq] at A
            obtain ⟨A, A'⟩ := A
            have hl1 := cparse_len _ _ _ _ hq
            simp only [A, Option.bind_some]
            rw [if_neg (by omega), if_pos (by simp), wrap_id (by omega) (by omega)]
            obtain ⟨k, rfl⟩ : ∃ q, k = q + 1 := ⟨k - 1, by omega⟩
            simp only [spec_l9Read.l0]
            rw [if_pos (by omega)]
            have B := ih (l.length - r1.length) r1 A' (by omega) (by simp at hrm; omega) k (by omega)
            cases hq2 : cparse m r1 with
            | none =>
              rw [hq2] at B
              obtain ⟨b, n, ks, B⟩ := B
              simp only [B, Option.bind_some, if_true]
              exact ⟨false, 0, [], rfl⟩
            | some q2 =>
              obtain ⟨tb, r2⟩ := q2
              rw [hq2] at B
              obtain ⟨B, B'⟩ := B
              have hl2 := cparse_len _ _ _ _ hq2
              simp only [B, Option.bind_some]
              rw [if_neg (by omega), if_pos (by simp), wrap_id (by omega) (by omega)]
              obtain ⟨k, rfl⟩ : ∃ q, k = q + 1 := ⟨k - 1, by omega⟩
              simp only [spec_l9Read.l0]
              rw [if_neg (by omega)]
              refine ⟨?_, B'⟩
              simp only [cv, List.nil_append, List.singleton_append]
              cases hta : cv ta
              cases htb : cv tb
              rfl
        · have hc : cparse (m + 1) (x :: r) = none := by simp only [cparse]; rw [if_neg h1, if_neg h2]
          rw [hc]
          clear hc
          by_cases a1 : x.f0 = 1
          · have a2 : ¬ (0 ≤ x.f1 ∧ x.f1 ≤ 99) := fun z => h1 ⟨a1, z.1, z.2⟩
            rw [if_pos a1, if_neg (by simpa using a2)]
            exact ⟨false, 0, [], rfl⟩
          · rw [if_neg a1]
            by_cases a2 : x.f0 = 2
            · have a3 : ¬ (0 ≤ x.f1 ∧ x.f1 ≤ 2) := fun z => h2 ⟨a2, z.1, z.2⟩
              rw [if_pos a2, if_neg (by simpa using a3)]
              exact ⟨false, 0, [], rfl⟩
            · rw [if_neg a2]
              exact ⟨false, 0, [], rfl⟩

/-- The reference's tree of good cells: as cof tells. -/
theorem l9Tree_eq (l : List S83) (k : Nat) (hk : 244 ≤ k) : match cof l with
    | none => ∃ b n ks, spec_l9Tree.f k l = some (b, n, ks, false)
    | some t => spec_l9Tree.f k l = some ((cv t).f0, (cv t).f1, (cv t).f2, true) := by
  by_cases h : l.length ≤ 60
  · have hS : spec_l9Tree.f k l = (spec_l9Read.f k l 0).bind fun bt164 => (if bt164.2.2.2 > 0 then (some (bt164.1, bt164.2.1, bt164.2.2.1, (bt164.2.2.2 == (l.length : Int)))) else (some (bt164.1, bt164.2.1, bt164.2.2.1, false))) := by
      unfold spec_l9Tree.f
      rw [if_neg (by omega)]
    rw [hS]
    clear hS
    have R := l9Read_eq l (by omega) 61 0 l rfl (by omega) (by omega) k (by omega)
    cases hq : cparse 61 l with
    | none =>
      rw [hq] at R
      obtain ⟨b, n, ks, R⟩ := R
      have hc : cof l = none := by simp [cof, h, hq]
      simp only [Int.cast_ofNat_Int] at R
      rw [R, hc]
      exact ⟨b, n, ks, by simp⟩
    | some q =>
      obtain ⟨t, r⟩ := q
      rw [hq] at R
      obtain ⟨R, R'⟩ := R
      have hl := cparse_len _ _ _ _ hq
      simp only [Int.cast_ofNat_Int] at R
      rw [R]
      simp only [Option.bind_some]
      rw [if_pos (by omega)]
      cases r with
      | nil =>
        have hc : cof l = some t := by simp [cof, h, hq]
        rw [hc]
        simp
      | cons x r =>
        have hc : cof l = none := by simp [cof, h, hq]
        rw [hc]
        refine ⟨(cv t).f0, (cv t).f1, (cv t).f2, ?_⟩
        simp at hl ⊢
        omega
  · have hc : cof l = none := by simp [cof, h]
    rw [hc]
    unfold spec_l9Tree.f
    rw [if_pos (by omega)]
    exact ⟨_, _, _, rfl⟩

theorem GoodComp_eq (l : List S83) (k : Nat) (hk : 244 ≤ k) : spec_GoodComp.f k l = some (cof l).isSome := by
  have h := l9Tree_eq l k hk
  unfold spec_GoodComp.f
  cases hq : cof l with
  | none => rw [hq] at h; obtain ⟨b, n, ks, h⟩ := h; rw [h]; rfl
  | some t => rw [hq] at h; simp only at h; rw [h]; rfl
end Go.Proofs.Ytjnaokdncemggaa.PAll
