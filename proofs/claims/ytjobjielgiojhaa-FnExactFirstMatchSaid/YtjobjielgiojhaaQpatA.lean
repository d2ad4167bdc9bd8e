/- Plain laws of the printed helpers over patterns' cells and rows of them. -/
import Derived.Test.YtjobjielgiojhaaQgoodData
import Derived.Test.YtjobjielgiojhaaPAllx13
import Derived.Test.YtjobjielgiojhaaPAllx16
import Derived.Test.YtjobjielgiojhaaPAllx17
import Derived.Test.YtjobjielgiojhaaPAllx19
import Derived.Test.YtjobjielgiojhaaPAllx20
import Derived.Test.YtjobjielgiojhaaPAllx21
namespace Go.Proofs.Ytjobjielgiojhaa.PAll
open Go.RowKit Go.Proofs.YtjobjielgiojhaaW.PrintWords Go.Proofs.YtjobjielgiojhaaW.PrintLast Go.Proofs.YtjobjielgiojhaaW.PrintMore
set_option linter.unusedVariables false
set_option linter.unusedSimpArgs false
theorem wrap_id {x : Int} (h0 : -9223372036854775808 ≤ x) (h1 : x < 9223372036854775808) : wrap64 x = x := by unfold wrap64; omega

def cvR (x : S143) : S139 := ⟨x.f0, x.f1⟩

theorem toPatS_loop (l : List S143) (hl : l.length ≤ 17592186044416) : ∀ (d k i : Nat) (x3 : List S139), i + d = l.length → x3.length = l.length → (∀ j, j < i → x3[j]? = (l.map cvR)[j]?) → d < k → laws_toPatS.l0 k l x3 (i : Int) = some (l.map cvR) := by
  intro d
  induction d with
  | zero =>
    intro k i x3 hi hx ht hk
    obtain ⟨k, rfl⟩ : ∃ m, k = m + 1 := ⟨k - 1, by omega⟩
    simp only [laws_toPatS.l0]
    rw [if_neg (by omega)]
    congr 1
    apply List.ext_getElem?
    intro j
    by_cases hj : j < i
    · exact ht j hj
    · rw [List.getElem?_eq_none (by omega), List.getElem?_eq_none (by simp; omega)]
  | succ d ih =>
    intro k i x3 hi hx ht hk
    obtain ⟨k, rfl⟩ : ∃ m, k = m + 1 := ⟨k - 1, by omega⟩
    have hlt : i < l.length := by omega
    have hr : rd_T143 l (i : Int) = l[i] := by simp [rd_T143, List.getD_eq_getElem?_getD, List.getElem?_eq_getElem hlt]
    simp only [laws_toPatS.l0]
    rw [if_pos (by omega), if_pos (by omega), hr]
    simp only [laws_toPat.f, Option.bind_some]
    rw [if_pos (by omega), wrap_id (by omega) (by omega)]
    have := ih k (i + 1) (x3.set i (cvR l[i])) (by omega) (by simp [hx]) (fun j hj => ?_) (by omega)
    · simpa [cvR] using this
    · by_cases hji : j = i
      · subst hji
        rw [List.getElem?_set_self (by omega)]
        simp [hlt]
      · rw [List.getElem?_set_ne (by omega)]
        exact ht j (by omega)

theorem toPatS_eq (l : List S143) (hl : l.length ≤ 17592186044416) (k : Nat) (hk : l.length < k) : laws_toPatS.f k l = some (l.map cvR) := by
  unfold laws_toPatS.f
  rw [if_pos (by omega), if_pos (by omega)]
  exact toPatS_loop l hl l.length k 0 _ (by omega) (by simp) (fun j hj => by omega) hk

theorem eqPatS_loop (a : List S139) (hm : a.length ≤ 17592186044416) : ∀ (d k i : Nat), i + d = a.length → d < k → laws_eqPatS.l0 k a a (i : Int) = some true := by
  intro d
  induction d with
  | zero =>
    intro k i hi hk
    obtain ⟨k, rfl⟩ : ∃ m, k = m + 1 := ⟨k - 1, by omega⟩
    simp only [laws_eqPatS.l0]
    rw [if_neg (by omega)]
  | succ d ih =>
    intro k i hi hk
    obtain ⟨k, rfl⟩ : ∃ m, k = m + 1 := ⟨k - 1, by omega⟩
    simp only [laws_eqPatS.l0]
    rw [if_pos (by omega), if_pos (by omega), if_pos (by omega), wrap_id (by omega) (by omega)]
    simp only [laws_eqPat.f, if_true, Option.bind_some]
    exact ih k (i + 1) (by omega) (by omega)

theorem eqPatS_self (a : List S139) (hm : a.length ≤ 17592186044416) (k : Nat) (hk : a.length < k) : laws_eqPatS.f k a a = some true := by
  unfold laws_eqPatS.f
  rw [if_pos rfl]
  exact eqPatS_loop a hm a.length k 0 (by omega) hk

theorem toPatSS_loop (l : List (List S143)) (hl : l.length ≤ 11728124029610) (N : Nat) (hN : N ≤ 17592186044416) (hi : ∀ x ∈ l, x.length ≤ N) : ∀ (d k i : Nat) (x3 : List (List S139)), i + d = l.length → x3.length = l.length → (∀ j, j < i → x3[j]? = (l.map (List.map cvR))[j]?) → d + N < k → laws_toPatSS.l0 k l x3 (i : Int) = some (l.map (List.map cvR)) := by
  intro d
  induction d with
  | zero =>
    intro k i x3 hi' hx ht hk
    obtain ⟨k, rfl⟩ : ∃ m, k = m + 1 := ⟨k - 1, by omega⟩
    simp only [laws_toPatSS.l0]
    rw [if_neg (by omega)]
    congr 1
    apply List.ext_getElem?
    intro j
    by_cases hj : j < i
    · exact ht j hj
    · rw [List.getElem?_eq_none (by omega), List.getElem?_eq_none (by simp; omega)]
  | succ d ih =>
    intro k i x3 hi' hx ht hk
    obtain ⟨k, rfl⟩ : ∃ m, k = m + 1 := ⟨k - 1, by omega⟩
    have hlt : i < l.length := by omega
    have hr : rd_L3 l (i : Int) = l[i] := by simp [rd_L3, List.getD_eq_getElem?_getD, List.getElem?_eq_getElem hlt]
    have hli := hi l[i] (List.getElem_mem hlt)
    simp only [laws_toPatSS.l0]
    rw [if_pos (by omega), if_pos (by omega), hr, toPatS_eq l[i] (by omega) k (by omega), Option.bind_some, if_pos (by omega), wrap_id (by omega) (by omega)]
    have := ih k (i + 1) (x3.set i (l[i].map cvR)) (by omega) (by simp [hx]) (fun j hj => ?_) (by omega)
    · simpa using this
    · by_cases hji : j = i
      · subst hji
        rw [List.getElem?_set_self (by omega)]
        simp [hlt]
      · rw [List.getElem?_set_ne (by omega)]
        exact ht j (by omega)

theorem toPatSS_eq (l : List (List S143)) (hl : l.length ≤ 11728124029610) (N : Nat) (hN : N ≤ 17592186044416) (hi : ∀ x ∈ l, x.length ≤ N) (k : Nat) (hk : l.length + N < k) : laws_toPatSS.f k l = some (l.map (List.map cvR)) := by
  unfold laws_toPatSS.f
  rw [if_pos (by omega), if_pos (by omega)]
  exact toPatSS_loop l hl N hN hi l.length k 0 _ (by omega) (by simp) (fun j hj => by omega) hk

theorem eqPatSS_loop (a : List (List S139)) (hm : a.length ≤ 11728124029610) (N : Nat) (hN : N ≤ 17592186044416) (hi : ∀ x ∈ a, x.length ≤ N) : ∀ (d k i : Nat), i + d = a.length → d + N < k → laws_eqPatSS.l0 k a a (i : Int) = some true := by
  intro d
  induction d with
  | zero =>
    intro k i hi' hk
    obtain ⟨k, rfl⟩ : ∃ m, k = m + 1 := ⟨k - 1, by omega⟩
    simp only [laws_eqPatSS.l0]
    rw [if_neg (by omega)]
  | succ d ih =>
    intro k i hi' hk
    obtain ⟨k, rfl⟩ : ∃ m, k = m + 1 := ⟨k - 1, by omega⟩
    have hlt : i < a.length := by omega
    have hr : rd_L5 a (i : Int) = a[i] := by simp [rd_L5, List.getD_eq_getElem?_getD, List.getElem?_eq_getElem hlt]
    have hli := hi a[i] (List.getElem_mem hlt)
    simp only [laws_eqPatSS.l0]
    rw [if_pos (by omega), if_pos (by omega), if_pos (by omega), hr, eqPatS_self a[i] (by omega) k (by omega), Option.bind_some, if_pos rfl, wrap_id (by omega) (by omega)]
    exact ih k (i + 1) (by omega) (by omega)

theorem eqPatSS_self (a : List (List S139)) (hm : a.length ≤ 11728124029610) (N : Nat) (hN : N ≤ 17592186044416) (hi : ∀ x ∈ a, x.length ≤ N) (k : Nat) (hk : a.length + N < k) : laws_eqPatSS.f k a a = some true := by
  unfold laws_eqPatSS.f
  rw [if_pos rfl]
  exact eqPatSS_loop a hm N hN hi a.length k 0 (by omega) hk

/-- What is not too large altogether: few rows, each of them short. -/
theorem szPatSS_loop (l : List (List S143)) (hl : l.length ≤ 11728124029610) : ∀ (d k i : Nat) (left : Int), i + d = l.length → 0 ≤ left → left ≤ 1048576 → (∀ x ∈ l, x.length ≤ 9223372036854775807) → d < k → ∃ r, laws_szPatSS.l0 k l left (i : Int) = some r ∧ (0 ≤ r → r ≤ 1048576 ∧ ∀ x ∈ l.drop i, x.length ≤ 1048576) := by
  intro d
  induction d with
  | zero =>
    intro k i left hi h0 h1 hx hk
    obtain ⟨k, rfl⟩ : ∃ m, k = m + 1 := ⟨k - 1, by omega⟩
    simp only [laws_szPatSS.l0]
    rw [if_neg (by omega)]
    refine ⟨left, rfl, fun _ => ⟨h1, ?_⟩⟩
    rw [List.drop_eq_nil_of_le (by omega)]
    simp
  | succ d ih =>
    intro k i left hi h0 h1 hx hk
    obtain ⟨k, rfl⟩ : ∃ m, k = m + 1 := ⟨k - 1, by omega⟩
    have hlt : i < l.length := by omega
    have hr : rd_L3 l (i : Int) = l[i] := by simp [rd_L3, List.getD_eq_getElem?_getD, List.getElem?_eq_getElem hlt]
    have hli := hx l[i] (List.getElem_mem hlt)
    simp only [laws_szPatSS.l0]
    rw [if_pos (by omega), if_pos (by omega), hr]
    unfold laws_szPatS.f
    by_cases hb : wrap64 (left - (l[i].length : Int)) < 0
    · rw [if_pos hb, Option.bind_some, if_pos (by omega)]
      exact ⟨-1, rfl, fun h => by omega⟩
    · rw [if_neg hb, Option.bind_some, if_neg hb, wrap_id (x := (i : Int) + 1) (by omega) (by omega)]
      have hle : (l[i].length : Int) ≤ left := by unfold wrap64 at hb; omega
      have hw : wrap64 (left - (l[i].length : Int)) = left - (l[i].length : Int) := wrap_id (by omega) (by omega)
      rw [hw]
      obtain ⟨r, h2, h3⟩ := ih k (i + 1) (left - (l[i].length : Int)) (by omega) (by omega) (by omega) hx (by omega)
      refine ⟨r, h2, fun hr0 => ⟨(h3 hr0).1, ?_⟩⟩
      rw [List.drop_eq_getElem_cons hlt]
      intro x hx'
      rcases List.mem_cons.1 hx' with rfl | hx'
      · omega
      · exact (h3 hr0).2 x hx'
theorem szPatSS_eq (l : List (List S143)) (left : Int) (hl : l.length ≤ 9223372036854775807) (hx : ∀ x ∈ l, x.length ≤ 9223372036854775807) (h0 : 0 ≤ left) (h1 : left ≤ 1048576) (k : Nat) (hk : 1050000 ≤ k) : ∃ r, laws_szPatSS.f k l left = some r ∧ (0 ≤ r → r ≤ 1048576 ∧ l.length ≤ 1048576 ∧ ∀ x ∈ l, x.length ≤ 1048576) := by
  unfold laws_szPatSS.f
  by_cases hb : wrap64 (left - (l.length : Int)) < 0
  · rw [if_pos hb]
    exact ⟨-1, rfl, fun h => by omega⟩
  · have hle : (l.length : Int) ≤ left := by unfold wrap64 at hb; omega
    have hw : wrap64 (left - (l.length : Int)) = left - (l.length : Int) := wrap_id (by omega) (by omega)
    rw [if_neg hb, hw]
    obtain ⟨r, h2, h3⟩ := szPatSS_loop l (by omega) l.length k 0 (left - (l.length : Int)) (by omega) (by omega) (by omega) hx (by omega)
    exact ⟨r, h2, fun hr => ⟨(h3 hr).1, by omega, by simpa using (h3 hr).2⟩⟩

end Go.Proofs.Ytjobjielgiojhaa.PAll
