/- The reference's GoodValue, GoodRules, FirstMatch answer as the program's contracts tell. -/
import Derived.Test.YtjobjielgiojhaaQpatB
import Derived.Test.YtjobjielgiojhaaHfirst
import Derived.Test.YtjobjielgiojhaaHgoodData
import Derived.Test.YtjobjielgiojhaaHpatA
import Derived.Test.YtjobjielgiojhaaHpatB
import Derived.Test.YtjobjielgiojhaaHpatC
import Derived.Test.YtjobjielgiojhaaHpatD
import Derived.Test.YtjobjielgiojhaaPAllx10
import Derived.Test.YtjobjielgiojhaaPAllx15
import Derived.Test.YtjobjielgiojhaaPAllx16
namespace Go.Proofs.Ytjobjielgiojhaa.PAll
open Go.RowKit Go.Proofs.YtjobjielgiojhaaW.PrintWords Go.Proofs.YtjobjielgiojhaaW.PrintLast Go.Proofs.YtjobjielgiojhaaW.PrintMore
set_option linter.unusedVariables false
set_option linter.unusedSimpArgs false

theorem few_of_data {cons : List Int} (h : dataB cons = true) : cons.length ≤ 4 := by
  unfold dataB at h
  simp only [Bool.and_eq_true, decide_eq_true_eq] at h
  omega

theorem l8Value_eq (cons v : List Int) (hc : cons.length ≤ 1048576) (k : Nat) (hk : 1050000 ≤ k) : match valOf cons v with
    | none => ∃ c ks, spec_l8Value.f k cons v = some (c, ks, false)
    | some t => spec_l8Value.f k cons v = some ((cvP t).f0, (cvP t).f1, true) := by
  unfold spec_l8Value.f
  rw [GoodData_eq cons (by omega) k (by omega), Option.bind_some]
  cases hd : dataB cons with
  | false =>
    have hv : valOf cons v = none := by unfold valOf; rw [if_neg (by simp [hd])]
    rw [hv, if_neg (by simp)]
    exact ⟨0, [], rfl⟩
  | true =>
    rw [if_pos rfl]
    by_cases hl : v.length ≤ 60
    · have hv : valOf cons v = pof cons 60 (v.map vcell) := by unfold valOf; rw [if_pos ⟨hd, hl⟩]
      rw [hv, if_neg (by omega)]
      have R := ReadVal_told (small_of_data hd) (few_of_data hd) v (by omega) 61 0 (v.map vcell) rfl (by omega) (by simp; omega) k (by omega)
      have e0 : ((0 : Nat) : Int) = 0 := rfl
      rw [e0] at R
      unfold pof
      rw [if_pos (by simpa using hl)]
      cases hq : pparse cons 61 (v.map vcell) with
      | none =>
        rw [hq] at R
        obtain ⟨c, ks, R⟩ := R
        simp only [show 60 + 1 = 61 from rfl, hq, R, Option.bind_some]
        exact ⟨c, ks, by simp⟩
      | some q =>
        obtain ⟨t, r⟩ := q
        rw [hq] at R
        obtain ⟨R, _⟩ := R
        have hlen := pparse_len cons 61 _ _ _ hq
        simp only [List.length_map] at hlen R
        simp only [show 60 + 1 = 61 from rfl, hq, R, Option.bind_some]
        rw [if_pos (by omega)]
        cases r with
        | nil => simp
        | cons x r =>
          refine ⟨(cvP t).f0, (cvP t).f1, ?_⟩
          simp at hlen ⊢
          omega
    · have hv : valOf cons v = none := by unfold valOf; rw [if_neg (by simp; omega)]
      rw [hv, if_pos (by omega)]
      exact ⟨0, [], rfl⟩

theorem specGoodValue_eq (cons v : List Int) (hc : cons.length ≤ 1048576) (k : Nat) (hk : 1050000 ≤ k) : spec_GoodValue.f k cons v = some (goodValueB cons v) := by
  have h := l8Value_eq cons v hc k hk
  unfold spec_GoodValue.f goodValueB
  cases hq : valOf cons v with
  | none => rw [hq] at h; obtain ⟨c, ks, h⟩ := h; rw [h]; rfl
  | some t => rw [hq] at h; simp only at h; rw [h]; rfl

theorem rules_loop {cons : List Int} (hs : ∀ n ∈ cons, 0 ≤ n ∧ n ≤ 2) (hcl : cons.length ≤ 4) (rs : List (List S139)) (hr : rs.length ≤ 8) (hin : ∀ x ∈ rs, x.length ≤ 1048576) : ∀ (d i k : Nat) (ts : List Pt), i + d = rs.length → ts.length = i → 8400000 + d ≤ k →
    spec_l8Rules.l0 k (cvPs ts) rs (rs.length : Int) (i : Int) cons = match pofs cons (rs.drop i) with
      | none => some ([], false)
      | some us => some (cvPs (ts ++ us), true) := by
  intro d
  induction d with
  | zero =>
    intro i k ts hi ht hk
    obtain ⟨k, rfl⟩ : ∃ q, k = q + 1 := ⟨k - 1, by omega⟩
    simp only [spec_l8Rules.l0]
    rw [if_neg (by omega), List.drop_eq_nil_of_le (by omega)]
    simp [pofs]
  | succ d ih =>
    intro i k ts hi ht hk
    obtain ⟨k, rfl⟩ : ∃ q, k = q + 1 := ⟨k - 1, by omega⟩
    have hlt : i < rs.length := by omega
    have hli := hin rs[i] (List.getElem_mem hlt)
    have hrd : rd_L5 rs (i : Int) = rs[i] := by simp [rd_L5, List.getD_eq_getElem?_getD, List.getElem?_eq_getElem hlt]
    obtain ⟨l, hl⟩ : ∃ l, l = rs[i] := ⟨_, rfl⟩
    simp only [spec_l8Rules.l0]
    rw [if_pos (by omega), if_pos (by omega), if_pos (by omega), hrd, rdR_drop rs i hlt, hrd, ← hl]
    rw [← hl] at hli
    simp only [pofs]
    have e0 : ((0 : Nat) : Int) = 0 := rfl
    by_cases h40 : l.length ≤ 40
    · have R := ReadPat_told hs hcl l (by omega) 41 0 l rfl (by omega) (by omega) k (by omega)
      rw [e0] at R
      have hp : pof cons 40 l = match pparse cons 41 l with
          | some (t, []) => some t
          | _ => none := by unfold pof; rw [if_pos h40]; rfl
      rw [hp]
      cases hq : pparse cons 41 l with
      | none =>
        rw [hq] at R
        obtain ⟨c, ks, R⟩ := R
        rw [R, Option.bind_some, if_pos rfl]
      | some q =>
        obtain ⟨t, r⟩ := q
        rw [hq] at R
        obtain ⟨R, _⟩ := R
        have hlen := pparse_len cons 41 _ _ _ hq
        rw [R, Option.bind_some]
        simp only
        rw [if_neg (by omega)]
        cases r with
        | nil =>
          rw [if_pos (by simp), if_neg (by omega), if_pos (by rw [cvPs_len]; omega), wrap_id (by omega) (by omega), s75_eta]
          have e1 : cvPs ts ++ [cvP t] = cvPs (ts ++ [t]) := by rw [cvPs_app]; rfl
          have e2 : (i : Int) + 1 = ((i + 1 : Nat) : Int) := by omega
          rw [e1, e2, ih (i + 1) k (ts ++ [t]) (by omega) (by simp [ht]) (by omega)]
          cases pofs cons (rs.drop (i + 1)) with
          | none => rfl
          | some us => simp
        | cons x r =>
          rw [if_neg (by simp at hlen ⊢; omega)]
    · have R := ReadPat_told hs hcl l (by omega) (l.length + 1) 0 l rfl (by omega) (by omega) k (by omega)
      rw [e0] at R
      have hp : pof cons 40 l = none := by unfold pof; rw [if_neg h40]
      rw [hp]
      cases hq : pparse cons (l.length + 1) l with
      | none =>
        rw [hq] at R
        obtain ⟨c, ks, R⟩ := R
        rw [R, Option.bind_some, if_pos rfl]
      | some q =>
        obtain ⟨t, r⟩ := q
        rw [hq] at R
        obtain ⟨R, _⟩ := R
        rw [R, Option.bind_some]
        simp only
        by_cases z : ((l.length - r.length : Nat) : Int) = 0
        · rw [if_pos z]
        · rw [if_neg z]
          by_cases z2 : ((l.length - r.length : Nat) : Int) = (l.length : Int)
          · rw [if_pos z2, if_pos (by omega)]
          · rw [if_neg z2]

theorem l8Rules_eq (cons : List Int) (rs : List (List S139)) (hc : cons.length ≤ 1048576) (hin : ∀ x ∈ rs, x.length ≤ 1048576) (k : Nat) (hk : 8500000 ≤ k) :
    spec_l8Rules.f k cons rs = match rulesV cons rs with
      | none => some ([], false)
      | some ts => some (cvPs ts, true) := by
  obtain ⟨k, rfl⟩ : ∃ q, k = q + 1 := ⟨k - 1, by omega⟩
  unfold spec_l8Rules.f
  rw [GoodData_eq cons (by omega) _ (by omega), Option.bind_some]
  cases hd : dataB cons with
  | false =>
    have hv : rulesV cons rs = none := by unfold rulesV; rw [if_neg (by simp [hd])]
    rw [hv, if_neg (by simp)]
    simp [spec_l8Rules.j0]
  | true =>
    rw [if_pos rfl]
    simp only [spec_l8Rules.j0]
    by_cases hl : rs.length ≤ 8
    · have hv : rulesV cons rs = pofs cons rs := by unfold rulesV; rw [if_pos ⟨hd, hl⟩]
      rw [hv, if_neg (by simp; omega)]
      have := rules_loop (small_of_data hd) (few_of_data hd) rs hl hin rs.length 0 k [] (by omega) rfl (by omega)
      simpa [cvPs] using this
    · have hv : rulesV cons rs = none := by unfold rulesV; rw [if_neg (by simp; omega)]
      rw [hv, if_pos (by simp; omega)]

theorem specGoodRules_eq (cons : List Int) (rs : List (List S139)) (hc : cons.length ≤ 1048576) (hin : ∀ x ∈ rs, x.length ≤ 1048576) (k : Nat) (hk : 8500000 ≤ k) : spec_GoodRules.f k cons rs = some (goodRulesB cons rs) := by
  unfold spec_GoodRules.f goodRulesB
  rw [l8Rules_eq cons rs hc hin k hk]
  cases rulesV cons rs with
  | none => rfl
  | some t => rfl
end Go.Proofs.Ytjobjielgiojhaa.PAll
