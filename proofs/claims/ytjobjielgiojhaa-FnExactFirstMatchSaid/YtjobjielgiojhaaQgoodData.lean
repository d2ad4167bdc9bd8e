/- toIntS copies, eqIntS compares; the reference's GoodData answers as dataB. -/
import Derived.Test.YtjobjielgiojhaaHgoodData
import Derived.Test.YtjobjielgiojhaaPAllx3
import Derived.Test.YtjobjielgiojhaaPAllx4
import Derived.Test.YtjobjielgiojhaaPAllx7
namespace Go.Proofs.Ytjobjielgiojhaa.PAll
open Go.RowKit Go.Proofs.YtjobjielgiojhaaW.PrintWords Go.Proofs.YtjobjielgiojhaaW.PrintLast Go.Proofs.YtjobjielgiojhaaW.PrintMore
set_option linter.unusedVariables false
set_option linter.unusedSimpArgs false

theorem dwrap_id {x : Int} (h0 : -9223372036854775808 ≤ x) (h1 : x < 9223372036854775808) : wrap64 x = x := by unfold wrap64; omega

theorem toIntS_loop (l : List Int) (hl : l.length ≤ 17592186044416) : ∀ (d k i : Nat) (x3 : List Int), i + d = l.length → x3.length = l.length → (∀ j, j < i → x3[j]? = l[j]?) → d < k → laws_toIntS.l0 k l x3 (i : Int) = some l := by
  intro d
  induction d with
  | zero =>
    intro k i x3 hi hx ht hk
    obtain ⟨k, rfl⟩ : ∃ m, k = m + 1 := ⟨k - 1, by omega⟩
    simp only [laws_toIntS.l0]
    rw [if_neg (by omega)]
    congr 1
    apply List.ext_getElem?
    intro j
    by_cases hj : j < i
    · exact ht j hj
    · rw [List.getElem?_eq_none (by omega), List.getElem?_eq_none (by omega)]
  | succ d ih =>
    intro k i x3 hi hx ht hk
    obtain ⟨k, rfl⟩ : ∃ m, k = m + 1 := ⟨k - 1, by omega⟩
    have hlt : i < l.length := by omega
    have hr : rd l (i : Int) = l[i] := by simp [rd, List.getD_eq_getElem?_getD, List.getElem?_eq_getElem hlt]
    simp only [laws_toIntS.l0]
    rw [if_pos (by omega), if_pos (by omega), if_pos (by omega), hr, dwrap_id (by omega) (by omega)]
    have := ih k (i + 1) (x3.set i l[i]) (by omega) (by simp [hx]) (fun j hj => ?_) (by omega)
    · simpa using this
    · by_cases hji : j = i
      · subst hji
        rw [List.getElem?_set_self (by omega)]
        simp [hlt]
      · rw [List.getElem?_set_ne (by omega)]
        exact ht j (by omega)

theorem toIntS_eq (l : List Int) (hl : l.length ≤ 17592186044416) (k : Nat) (hk : l.length < k) : laws_toIntS.f k l = some l := by
  unfold laws_toIntS.f
  rw [if_pos (by omega), if_pos (by omega)]
  exact toIntS_loop l hl l.length k 0 _ (by omega) (by simp) (fun j hj => by omega) hk

theorem eqIntS_loop (a : List Int) (hm : a.length ≤ 17592186044416) : ∀ (d k i : Nat), i + d = a.length → d < k → laws_eqIntS.l0 k a a (i : Int) = some true := by
  intro d
  induction d with
  | zero =>
    intro k i hi hk
    obtain ⟨k, rfl⟩ : ∃ m, k = m + 1 := ⟨k - 1, by omega⟩
    simp only [laws_eqIntS.l0]
    rw [if_neg (by omega)]
  | succ d ih =>
    intro k i hi hk
    obtain ⟨k, rfl⟩ : ∃ m, k = m + 1 := ⟨k - 1, by omega⟩
    simp only [laws_eqIntS.l0]
    rw [if_pos (by omega), if_pos (by omega), if_pos (by omega), if_pos trivial, dwrap_id (by omega) (by omega)]
    have := ih k (i + 1) (by omega) (by omega)
    simpa using this

theorem eqIntS_self (a : List Int) (hm : a.length ≤ 17592186044416) (k : Nat) (hk : a.length < k) : laws_eqIntS.f k a a = some true := by
  unfold laws_eqIntS.f
  rw [if_pos rfl]
  exact eqIntS_loop a hm a.length k 0 (by omega) hk

theorem dl1In_eq (n lo hi : Int) : spec_l1In.f n lo hi = some (decide (lo ≤ n ∧ n ≤ hi)) := by
  unfold spec_l1In.f
  by_cases h : lo ≤ n <;> simp [h]

theorem dataLoop_eq (l : List Int) (hl : l.length ≤ 17592186044416) : ∀ (d i : Nat) (b : Bool) (k : Nat), i + d = l.length → d < k →
    spec_GoodData.l0 k b l (l.length : Int) (i : Int) l = some ((l.drop i).all consB && (decide (1 ≤ (l.length : Int) ∧ (l.length : Int) ≤ 4) && (b || (l.drop i).contains 0))) := by
  intro d
  induction d with
  | zero =>
    intro i b k hi hk
    obtain ⟨k, rfl⟩ : ∃ m, k = m + 1 := ⟨k - 1, by omega⟩
    simp only [spec_GoodData.l0]
    rw [if_neg (by omega), List.drop_eq_nil_of_le (by omega), dl1In_eq, Option.bind_some]
    by_cases h : 1 ≤ (l.length : Int) ∧ (l.length : Int) ≤ 4
    · rw [decide_eq_true h]; simp
    · rw [decide_eq_false h]; simp
  | succ d ih =>
    intro i b k hi hk
    obtain ⟨k, rfl⟩ : ∃ m, k = m + 1 := ⟨k - 1, by omega⟩
    have hlt : i < l.length := by omega
    have hr : rd l (i : Int) = l[i] := by simp [rd, List.getD_eq_getElem?_getD, List.getElem?_eq_getElem hlt]
    have e : (i : Int) + 1 = ((i + 1 : Nat) : Int) := by omega
    simp only [spec_GoodData.l0]
    rw [if_pos (by omega), if_pos (by omega), if_pos (by omega), hr, dl1In_eq, Option.bind_some, dwrap_id (by omega) (by omega), e, ih (i + 1) _ k (by omega) (by omega), ih (i + 1) _ k (by omega) (by omega), List.drop_eq_getElem_cons hlt, List.all_cons, List.contains_cons]
    have hc : consB l[i] = decide (0 ≤ l[i] ∧ l[i] ≤ 2) := by simp [consB]
    rw [← hc]
    have h0 : ((0 : Int) == l[i]) = (l[i] == 0) := by rw [Bool.eq_iff_iff]; simp; exact eq_comm
    rw [h0]
    cases consB l[i] <;> cases b <;> cases (l[i] == 0) <;> simp

theorem GoodData_eq (l : List Int) (hl : l.length ≤ 17592186044416) (k : Nat) (hk : l.length < k) : spec_GoodData.f k l = some (dataB l) := by
  unfold spec_GoodData.f dataB
  have := dataLoop_eq l hl l.length 0 false k (by omega) (by omega)
  simp only [Int.cast_ofNat_Int, List.drop_zero, Bool.false_or] at this
  rw [this]
  congr 1
  have e : (!l.any fun x => !consB x) = l.all consB := by rw [List.not_any_eq_all_not]; simp
  rw [e]
  cases l.all consB <;> simp
end Go.Proofs.Ytjobjielgiojhaa.PAll
