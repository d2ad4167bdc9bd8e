/- The reference's reading of patterns and values finds the trees that pparse tells. -/
import Derived.Test.YtjobjielgiojhaaQpatA
import Derived.Test.YtjobjielgiojhaaHpatA
import Derived.Test.YtjobjielgiojhaaHpatB
import Derived.Test.YtjobjielgiojhaaHpatC
import Derived.Test.YtjobjielgiojhaaPAllx14
import Derived.Test.YtjobjielgiojhaaPAllx9
namespace Go.Proofs.Ytjobjielgiojhaa.PAll
open Go.RowKit Go.Proofs.YtjobjielgiojhaaW.PrintWords Go.Proofs.YtjobjielgiojhaaW.PrintLast Go.Proofs.YtjobjielgiojhaaW.PrintMore
set_option linter.unusedVariables false
set_option linter.unusedSimpArgs false

mutual
/-- The reference's tree. -/
def cvP : Pt → S75
  | .mk any c ks => if any = true then ⟨-1, []⟩ else ⟨c, cvPs ks⟩
def cvPs : List Pt → List S75
  | [] => []
  | k :: ks => cvP k :: cvPs ks
end
theorem cvPs_app : ∀ (a b : List Pt), cvPs (a ++ b) = cvPs a ++ cvPs b
  | [], b => rfl
  | k :: ks, b => by simp only [List.cons_append, cvPs, cvPs_app ks b]
theorem cvPs_len : ∀ (a : List Pt), (cvPs a).length = a.length
  | [] => rfl
  | k :: ks => by simp only [cvPs, List.length_cons, cvPs_len ks]
theorem cvPs_get : ∀ (a : List Pt) (i : Nat), (cvPs a)[i]? = a[i]?.map cvP
  | [], i => by simp [cvPs]
  | k :: ks, 0 => by simp [cvPs]
  | k :: ks, i + 1 => by simp only [cvPs, List.getElem?_cons_succ]; exact cvPs_get ks i
theorem s75_eta (x : S75) : (⟨x.f0, x.f1⟩ : S75) = x := by cases x; rfl

theorem rd139_drop (l : List S139) (i : Nat) (x : S139) (r : List S139) (h : l.drop i = x :: r) : rd_T139 l (i : Int) = x := by
  have : l[i]? = some x := by rw [← List.head?_drop, h]; rfl
  simp [rd_T139, List.getD_eq_getElem?_getD, this]
theorem rdI_drop (l : List Int) (i : Nat) (x : Int) (r : List Int) (h : l.drop i = x :: r) : rd l (i : Int) = x := by
  have : l[i]? = some x := by rw [← List.head?_drop, h]; rfl
  simp [rd, List.getD_eq_getElem?_getD, this]

/-- How the reference tells what was read. -/
def Told (l : List S139) (r : Option (Pt × List S139)) (x : Option (Int × List S75 × Int)) : Prop := match r with
  | none => ∃ c ks, x = some (c, ks, 0)
  | some (t, rest) => x = some ((cvP t).f0, (cvP t).f1, ((l.length - rest.length : Nat) : Int)) ∧ l.drop (l.length - rest.length) = rest

theorem kids_told {cons : List Int} {l : List S139} (hl : l.length ≤ 10000000) {x0 con : Int} {a : Nat} (h0 : 0 ≤ con) (h1 : con < (cons.length : Int)) (ha : rd cons con = (a : Int)) (ha2 : a ≤ 2) {m : Nat} (hlen : ∀ l t r, pparse cons m l = some (t, r) → r.length < l.length)
    (ih : ∀ (i : Nat) (r : List S139), l.drop i = r → i ≤ l.length → r.length < m → ∀ k, 8 * m ≤ k → Told l (pparse cons m r) (spec_l8ReadPat.f k cons l (i : Int))) :
    ∀ (d j i : Nat) (r : List S139) (ks : List Pt) (k : Nat), j + d = a → l.drop i = r → i ≤ l.length → r.length < m → ks.length = j → 8 * m + d + 1 ≤ k →
      match pkids (pparse cons m) d r with
      | none => ∃ c ks', spec_l8ReadPat.l0 k l (i : Int) (j : Int) cons x0 con con (cvPs ks) = some (c, ks', 0)
      | some (ts, rest) => spec_l8ReadPat.l0 k l (i : Int) (j : Int) cons x0 con con (cvPs ks) = some (con, cvPs (ks ++ ts), ((l.length - rest.length : Nat) : Int)) ∧ l.drop (l.length - rest.length) = rest := by
  intro d
  induction d with
  | zero =>
    intro j i r ks k hj hr hi hrm hks hk
    obtain ⟨k, rfl⟩ : ∃ q, k = q + 1 := ⟨k - 1, by omega⟩
    simp only [pkids, spec_l8ReadPat.l0]
    rw [if_pos h0, if_pos h1, ha, if_neg (by omega), List.append_nil]
    have e : l.length - r.length = i := by have := congrArg List.length hr; simp at this; omega
    rw [e]
    exact ⟨rfl, hr⟩
  | succ d ihd =>
    intro j i r ks k hj hr hi hrm hks hk
    obtain ⟨k, rfl⟩ : ∃ q, k = q + 1 := ⟨k - 1, by omega⟩
    simp only [pkids, spec_l8ReadPat.l0]
    rw [if_pos h0, if_pos h1, ha, if_pos (by omega)]
    have A := ih i r hr hi hrm k (by omega)
    cases hq : pparse cons m r with
    | none =>
      rw [hq] at A
      obtain ⟨c, ks', A⟩ := A
      simp only [A, Option.bind_some, if_true]
      exact ⟨_, _, rfl⟩
    | some q =>
      obtain ⟨t, r1⟩ := q
      rw [hq] at A
      obtain ⟨A, A'⟩ := A
      have hl1 := hlen _ _ _ hq
      have hrl : r.length ≤ l.length := by rw [← hr]; simp
      simp only [A, Option.bind_some]
      rw [if_neg (by omega), if_pos (by rw [cvPs_len]; omega), wrap_id (by omega) (by omega), s75_eta]
      have e1 : cvPs ks ++ [cvP t] = cvPs (ks ++ [t]) := by rw [cvPs_app]; rfl
      have e2 : (j : Int) + 1 = ((j + 1 : Nat) : Int) := by omega
      rw [e1, e2]
      have B := ihd (j + 1) (l.length - r1.length) r1 (ks ++ [t]) k (by omega) A' (by omega) (by omega) (by simp [hks]) (by omega)
      cases hq2 : pkids (pparse cons m) d r1 with
      | none => rw [hq2] at B; simp only; exact B
      | some q2 =>
        obtain ⟨ts, r2⟩ := q2
        rw [hq2] at B
        simp only at B ⊢
        rw [List.append_assoc] at B
        exact B

theorem ReadPat_told {cons : List Int} (hs : ∀ n ∈ cons, 0 ≤ n ∧ n ≤ 2) (hcl : cons.length ≤ 4) (l : List S139) (hl : l.length ≤ 10000000) : ∀ (m i : Nat) (r : List S139), l.drop i = r → i ≤ l.length → r.length < m → ∀ k, 8 * m ≤ k → Told l (pparse cons m r) (spec_l8ReadPat.f k cons l (i : Int)) := by
  intro m
  induction m with
  | zero => intro i r _ _ h; omega
  | succ m ih =>
    intro i r hr hi hrm k hk
    obtain ⟨k, rfl⟩ : ∃ q, k = q + 1 := ⟨k - 1, by omega⟩
    cases r with
    | nil =>
      have : l.length ≤ i := by have := congrArg List.length hr; simp at this; omega
      simp only [pparse, Told]
      refine ⟨0, [], ?_⟩
      simp only [spec_l8ReadPat.f]
      rw [if_pos (by omega)]
    | cons x r =>
      have hlen : l.length - i = r.length + 1 := by have := congrArg List.length hr; simp at this; omega
      have hr1 : l.drop (i + 1) = r := by rw [← List.drop_drop, hr]; rfl
      have hx := rd139_drop l i x r hr
      simp only [List.length_cons] at hrm
      obtain ⟨k, rfl⟩ : ∃ q, k = q + 1 := ⟨k - 1, by omega⟩
      obtain ⟨k, rfl⟩ : ∃ q, k = q + 1 := ⟨k - 1, by omega⟩
      have hS : spec_l8ReadPat.f (k + 1 + 1 + 1) cons l (i : Int) = if x.f0 = 1 ∧ x.f1 = 0 then some ((-1), ([] : List S75), (i : Int) + 1) else if x.f0 = 2 ∧ (0 ≤ x.f1 ∧ x.f1 ≤ (cons.length : Int) - 1) then spec_l8ReadPat.l0 k l ((i : Int) + 1) 0 cons x.f0 x.f1 x.f1 [] else some (0, ([] : List S75), 0) := by
        simp only [spec_l8ReadPat.f, spec_l8ReadPat.j0, spec_l8ReadPat.j1]
        rw [if_neg (by omega), if_pos (by omega), if_pos (by omega), hx, wrap_id (by omega) (by omega)]
        by_cases a1 : x.f0 = 1
        · by_cases a2 : x.f1 = 0
          · simp [a1, a2]
          · simp [a1, a2]
        · by_cases a2 : x.f0 = 2
          · by_cases a3 : x.f1 < 0
            · have a4 : ¬ (0 ≤ x.f1) := by omega
              simp [a2, a3, a4]
            · have a3' : 0 ≤ x.f1 := by omega
              by_cases a4 : x.f1 ≥ (cons.length : Int)
              · have a5 : ¬ (x.f1 ≤ (cons.length : Int) - 1) := by omega
                simp [a2, a3, a4, a5]
              · have a5 : x.f1 ≤ (cons.length : Int) - 1 := by omega
                simp [a2, a3, a3', a4, a5]
          · simp [a1, a2]
      rw [hS]
      clear hS
      simp only [pparse]
      by_cases h1 : x.f0 = 1 ∧ x.f1 = 0
      · rw [if_pos h1, if_pos h1]
        have e1 : l.length - r.length = i + 1 := by omega
        simp only [Told]
        rw [e1]
        exact ⟨by simp [cvP], hr1⟩
      · rw [if_neg h1, if_neg h1]
        by_cases h2 : x.f0 = 2 ∧ (0 ≤ x.f1 ∧ x.f1 ≤ (cons.length : Int) - 1)
        · rw [if_pos h2, if_pos h2]
          obtain ⟨a1, a2, a3⟩ := h2
          obtain ⟨a, haa, ha2⟩ : ∃ a : Nat, rd cons x.f1 = (a : Int) ∧ a ≤ 2 := by
            have hm : rd cons x.f1 ∈ cons := by
              have : x.f1.toNat < cons.length := by omega
              simp only [rd, List.getD_eq_getElem?_getD, List.getElem?_eq_getElem this, Option.getD_some]
              exact List.getElem_mem _
            have := hs _ hm
            exact ⟨(rd cons x.f1).toNat, by omega, by omega⟩
          have e : (cons.getD x.f1.toNat 0).toNat = a := by
            have : rd cons x.f1 = cons.getD x.f1.toNat 0 := rfl
            rw [← this, haa]; rfl
          rw [e]
          have K := kids_told hl (x0 := x.f0) a2 (by omega) haa ha2 (pparse_len cons m) ih a 0 (i + 1) r [] k (by omega) hr1 (by omega) (by omega) rfl (by omega)
          have e3 : (i : Int) + 1 = ((i + 1 : Nat) : Int) := by omega
          rw [e3]
          simp only [cvPs, List.nil_append] at K
          cases hq : pkids (pparse cons m) a r with
          | none => rw [hq] at K; exact K
          | some q =>
            obtain ⟨ts, rest⟩ := q
            rw [hq] at K
            simp only [Told, cvP] at K ⊢
            exact K
        · rw [if_neg h2, if_neg h2]
          exact ⟨0, [], rfl⟩

/-- The same of values. -/
theorem vkids_told {cons : List Int} {v : List Int} (hl : v.length ≤ 10000000) {con : Int} {a : Nat} (h0 : 0 ≤ con) (h1 : con < (cons.length : Int)) (ha : rd cons con = (a : Int)) (ha2 : a ≤ 2) {m : Nat}
    (ih : ∀ (i : Nat) (r : List S139), (v.map vcell).drop i = r → i ≤ v.length → r.length < m → ∀ k, 8 * m ≤ k → Told (v.map vcell) (pparse cons m r) (spec_l8ReadVal.f k cons v (i : Int))) :
    ∀ (d j i : Nat) (r : List S139) (ks : List Pt) (k : Nat), j + d = a → (v.map vcell).drop i = r → i ≤ v.length → r.length < m → ks.length = j → 8 * m + d + 1 ≤ k →
      match pkids (pparse cons m) d r with
      | none => ∃ c ks', spec_l8ReadVal.l0 k v (i : Int) (j : Int) cons con (cvPs ks) = some (c, ks', 0)
      | some (ts, rest) => spec_l8ReadVal.l0 k v (i : Int) (j : Int) cons con (cvPs ks) = some (con, cvPs (ks ++ ts), (((v.map vcell).length - rest.length : Nat) : Int)) ∧ (v.map vcell).drop ((v.map vcell).length - rest.length) = rest := by
  intro d
  have hlv : (v.map vcell).length = v.length := by simp
  induction d with
  | zero =>
    intro j i r ks k hj hr hi hrm hks hk
    obtain ⟨k, rfl⟩ : ∃ q, k = q + 1 := ⟨k - 1, by omega⟩
    simp only [pkids, spec_l8ReadVal.l0]
    rw [if_pos h0, if_pos h1, ha, if_neg (by omega), List.append_nil]
    have e : (v.map vcell).length - r.length = i := by have := congrArg List.length hr; simp at this; omega
    rw [e]
    exact ⟨rfl, hr⟩
  | succ d ihd =>
    intro j i r ks k hj hr hi hrm hks hk
    obtain ⟨k, rfl⟩ : ∃ q, k = q + 1 := ⟨k - 1, by omega⟩
    simp only [pkids, spec_l8ReadVal.l0]
    rw [if_pos h0, if_pos h1, ha, if_pos (by omega)]
    have A := ih i r hr hi hrm k (by omega)
    cases hq : pparse cons m r with
    | none =>
      rw [hq] at A
      obtain ⟨c, ks', A⟩ := A
      simp only [A, Option.bind_some, if_true]
      exact ⟨_, _, rfl⟩
    | some q =>
      obtain ⟨t, r1⟩ := q
      rw [hq] at A
      obtain ⟨A, A'⟩ := A
      have hl1 := pparse_len cons m _ _ _ hq
      have hrl : r.length ≤ (v.map vcell).length := by rw [← hr]; simp
      simp only [A, Option.bind_some]
      rw [if_neg (by omega), if_pos (by rw [cvPs_len]; omega), wrap_id (by omega) (by omega), s75_eta]
      have e1 : cvPs ks ++ [cvP t] = cvPs (ks ++ [t]) := by rw [cvPs_app]; rfl
      have e2 : (j : Int) + 1 = ((j + 1 : Nat) : Int) := by omega
      rw [e1, e2]
      have B := ihd (j + 1) ((v.map vcell).length - r1.length) r1 (ks ++ [t]) k (by omega) A' (by omega) (by omega) (by simp [hks]) (by omega)
      cases hq2 : pkids (pparse cons m) d r1 with
      | none => rw [hq2] at B; simp only; exact B
      | some q2 =>
        obtain ⟨ts, r2⟩ := q2
        rw [hq2] at B
        simp only at B ⊢
        rw [List.append_assoc] at B
        exact B

theorem ReadVal_told {cons : List Int} (hs : ∀ n ∈ cons, 0 ≤ n ∧ n ≤ 2) (hcl : cons.length ≤ 4) (v : List Int) (hl : v.length ≤ 10000000) : ∀ (m i : Nat) (r : List S139), (v.map vcell).drop i = r → i ≤ v.length → r.length < m → ∀ k, 8 * m ≤ k → Told (v.map vcell) (pparse cons m r) (spec_l8ReadVal.f k cons v (i : Int)) := by
  intro m
  have hlv : (v.map vcell).length = v.length := by simp
  induction m with
  | zero => intro i r _ _ h; omega
  | succ m ih =>
    intro i r hr hi hrm k hk
    obtain ⟨k, rfl⟩ : ∃ q, k = q + 1 := ⟨k - 1, by omega⟩
    obtain ⟨k, rfl⟩ : ∃ q, k = q + 1 := ⟨k - 1, by omega⟩
    cases r with
    | nil =>
      have : v.length ≤ i := by have := congrArg List.length hr; simp at this; omega
      simp only [pparse, Told]
      refine ⟨0, [], ?_⟩
      simp only [spec_l8ReadVal.f, spec_l8ReadVal.j0]
      rw [if_pos (by omega)]
      simp
    | cons x r =>
      have hlen : v.length - i = r.length + 1 := by have := congrArg List.length hr; simp at this; omega
      have hlt : i < v.length := by omega
      have hxv : x = vcell (rd v (i : Int)) := by
        have h1 : (v.map vcell)[i]? = some x := by rw [← List.head?_drop, hr]; rfl
        rw [List.getElem?_map, List.getElem?_eq_getElem hlt] at h1
        simp at h1
        rw [← h1]
        simp [rd, List.getD_eq_getElem?_getD, List.getElem?_eq_getElem hlt]
      have hr1 : (v.map vcell).drop (i + 1) = r := by rw [← List.drop_drop, hr]; rfl
      obtain ⟨n, hn⟩ : ∃ n, n = rd v (i : Int) := ⟨_, rfl⟩
      rw [← hn] at hxv
      subst hxv
      simp only [List.length_cons] at hrm
      have hS : spec_l8ReadVal.f (k + 1 + 1) cons v (i : Int) = if 0 ≤ n ∧ n ≤ (cons.length : Int) - 1 then spec_l8ReadVal.l0 k v ((i : Int) + 1) 0 cons n [] else some (0, ([] : List S75), 0) := by
        simp only [spec_l8ReadVal.f, spec_l8ReadVal.j0]
        rw [if_neg (by omega), if_pos (by omega), if_pos (by omega), ← hn, wrap_id (by omega) (by omega)]
        by_cases a3 : n < 0
        · have a4 : ¬ (0 ≤ n) := by omega
          simp [a3, a4]
        · have a3' : 0 ≤ n := by omega
          have hi0 : (0 : Int) ≤ (i : Int) := by omega
          have hi1 : (i : Int) < (v.length : Int) := by omega
          by_cases a4 : n ≥ (cons.length : Int)
          · have a5 : ¬ (n ≤ (cons.length : Int) - 1) := by omega
            simp [a3, a4, a5]
          · have a5 : n ≤ (cons.length : Int) - 1 := by omega
            simp [a3, a3', a4, a5, hi0, hi1]
      rw [hS]
      clear hS
      simp only [pparse]
      rw [if_neg (by simp [vcell])]
      by_cases h2 : 0 ≤ n ∧ n ≤ (cons.length : Int) - 1
      · have h3 : (vcell n).f0 = 2 ∧ (0 ≤ (vcell n).f1 ∧ (vcell n).f1 ≤ (cons.length : Int) - 1) := ⟨rfl, h2⟩
        rw [if_pos h2, if_pos h3]
        obtain ⟨a2, a3⟩ := h2
        obtain ⟨a, haa, ha2⟩ : ∃ a : Nat, rd cons n = (a : Int) ∧ a ≤ 2 := by
          have hm : rd cons n ∈ cons := by
            have : n.toNat < cons.length := by omega
            simp only [rd, List.getD_eq_getElem?_getD, List.getElem?_eq_getElem this, Option.getD_some]
            exact List.getElem_mem _
          have := hs _ hm
          exact ⟨(rd cons n).toNat, by omega, by omega⟩
        have e : (cons.getD (vcell n).f1.toNat 0).toNat = a := by
          have : rd cons n = cons.getD (vcell n).f1.toNat 0 := rfl
          rw [← this, haa]; rfl
        rw [e]
        have K := vkids_told hl a2 (by omega) haa ha2 ih a 0 (i + 1) r [] k (by omega) hr1 (by omega) (by omega) rfl (by omega)
        have e3 : (i : Int) + 1 = ((i + 1 : Nat) : Int) := by omega
        rw [e3]
        simp only [cvPs, List.nil_append] at K
        cases hq : pkids (pparse cons m) a r with
        | none => rw [hq] at K; exact K
        | some q =>
          obtain ⟨ts, rest⟩ := q
          rw [hq] at K
          simp only [Told, cvP] at K ⊢
          exact K
      · have h3 : ¬ ((vcell n).f0 = 2 ∧ (0 ≤ (vcell n).f1 ∧ (vcell n).f1 ≤ (cons.length : Int) - 1)) := fun h => h2 h.2
        rw [if_neg h2, if_neg h3]
        exact ⟨0, [], rfl⟩
end Go.Proofs.Ytjobjielgiojhaa.PAll
