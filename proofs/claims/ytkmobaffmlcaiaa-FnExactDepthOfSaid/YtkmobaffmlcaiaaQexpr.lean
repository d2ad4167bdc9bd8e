/- Rows of expressions; both sides tell the same of them. (Written by mkqexpr.py.) -/
import Derived.Test.YtkmobaffmlcaiaaHexprC
import Derived.Test.YtkmobaffmlcaiaaHexprA
import Derived.Test.YtkmobaffmlcaiaaHwordA
import Derived.Test.YtkmobaffmlcaiaaPAllx1
import Derived.Test.YtkmobaffmlcaiaaPAllx10
import Derived.Test.YtkmobaffmlcaiaaPAllx16
import Derived.Test.YtkmobaffmlcaiaaPAllx17
import Derived.Test.YtkmobaffmlcaiaaPAllx18
import Derived.Test.YtkmobaffmlcaiaaPAllx20
import Derived.Test.YtkmobaffmlcaiaaPAllx21
import Derived.Test.YtkmobaffmlcaiaaPAllx23
import Derived.Test.YtkmobaffmlcaiaaPAllx3
import Derived.Test.YtkmobaffmlcaiaaPAllx9
namespace Go.Proofs.Ytkmobaffmlcaiaa.PAll
open Go.RowKit Go.Proofs.YtkmobaffmlcaiaaW.PrintWords Go.Proofs.YtkmobaffmlcaiaaW.PrintLast Go.Proofs.YtkmobaffmlcaiaaW.PrintMore
set_option linter.unusedVariables false
set_option linter.unusedSimpArgs false

theorem wrap_id {x : Int} (h0 : -9223372036854775808 ≤ x) (h1 : x < 9223372036854775808) : wrap64 x = x := by unfold wrap64; omega
theorem l1In_eq (n lo hi : Int) : spec_l1In.f n lo hi = some (decide (lo ≤ n ∧ n ≤ hi)) := by
  unfold spec_l1In.f
  by_cases h : lo ≤ n <;> simp [h]
theorem letter_eq (c : Int) : spec_l1Letter.f c = some (lettI c) := by
  unfold spec_l1Letter.f lettI
  by_cases h : 97 ≤ c <;> simp [h]

theorem bt_nat (s : ByteArray) (i : Nat) (h : i < s.size) : bt s (i : Int) = (s[i].toNat : Int) := by simp [bt, h]

theorem lead_all (s : ByteArray) (h : ∀ x ∈ s.data.toList, lettB x = true) : lead s = s.size := by
  refine lead_of s s.size (Nat.le_refl _) (fun x hx => h x (List.mem_of_mem_take hx)) (fun hh => absurd hh (Nat.lt_irrefl _))

theorem lead_not (s : ByteArray) (i : Nat) (hi : i < s.size) (hb : lettB s[i] = false) : lead s ≠ s.size := by
  intro h
  unfold lead at h
  have hm : ∀ x ∈ s.data.toList.takeWhile lettB, lettB x = true := fun x hx => by
    have := List.all_takeWhile (l := s.data.toList) (p := lettB)
    rw [List.all_eq_true] at this
    exact this x hx
  have hl : (s.data.toList.takeWhile lettB).length = s.data.toList.length := by rw [h]; simp
  have he : s.data.toList.takeWhile lettB = s.data.toList := (List.takeWhile_prefix lettB).eq_of_length hl
  rw [he] at hm
  have hx : s[i] ∈ s.data.toList := by
    have : s.data.toList[i]'(by simpa using hi) = s[i] := rfl
    rw [← this]
    exact List.getElem_mem _
  rw [hm _ hx] at hb
  cases hb

theorem specName_loop (s : ByteArray) (hs : s.size ≤ 9223372036854775800) (a0 a1 a3 : Int) : ∀ (d k i : Nat), i + d = s.size → d < k → (∀ x ∈ s.data.toList.take i, lettB x = true) →
    spec_GoodToken.l0 k (i : Int) a0 a1 s a3 = some (decide (a1 = 0) && nameB s) := by
  intro d
  induction d with
  | zero =>
    intro k i hi hk hp
    obtain ⟨k, rfl⟩ : ∃ m, k = m + 1 := ⟨k - 1, by omega⟩
    have hall : ∀ x ∈ s.data.toList, lettB x = true := fun x hx => hp x (by rw [List.take_of_length_le (by simp; omega)]; exact hx)
    have hl := lead_all s hall
    simp only [spec_GoodToken.l0]
    rw [if_neg (by omega)]
    by_cases h1 : a1 = 0
    · rw [if_pos h1, l1In_eq]
      simp only [Option.bind_some, nameB, h1, hl, decide_true, Bool.true_and, Bool.and_true]
      congr 1
      rw [← Bool.decide_and, decide_eq_decide]
      omega
    · rw [if_neg h1, decide_eq_false h1]; rfl
  | succ d ih =>
    intro k i hi hk hp
    obtain ⟨k, rfl⟩ : ∃ m, k = m + 1 := ⟨k - 1, by omega⟩
    have hlt : i < s.size := by omega
    simp only [spec_GoodToken.l0]
    rw [if_pos (by omega), if_pos (by omega), bt_nat s i hlt, letter_eq, wrap_id (by omega) (by omega)]
    simp only [Option.bind_some]
    cases hb : lettI (s[i].toNat : Int) with
    | true =>
      rw [if_pos rfl]
      have := ih k (i + 1) (by omega) (by omega) (fun x hx => by
        rw [List.take_succ_eq_append_getElem (by simpa using hlt)] at hx
        simp at hx
        rcases hx with hx | rfl
        · exact hp x hx
        · exact hb)
      simpa using this
    | false =>
      rw [if_neg (by simp)]
      have := lead_not s i hlt hb
      simp [nameB, this]

theorem strength_pos (s : ByteArray) (k : Nat) : ∃ n, spec_l2Strength.f (k + 5) s = some n ∧ decide (n > 0) = signB s := by
  by_cases h0 : s.toList = ([124, 124] : List UInt8)
  · exact ⟨1, by simp [spec_l2Strength.f, spec_l2Strength.j0, spec_l2Strength.j1, spec_l2Strength.j2, spec_l2Strength.j3, h0], by simp [signB, impl_StrengthOf.f, impl_StrengthOf.j0, impl_StrengthOf.j1, impl_StrengthOf.j2, impl_StrengthOf.j3, h0]⟩
  by_cases h1 : s.toList = ([38, 38] : List UInt8)
  · exact ⟨2, by simp [spec_l2Strength.f, spec_l2Strength.j0, spec_l2Strength.j1, spec_l2Strength.j2, spec_l2Strength.j3, h1], by simp [signB, impl_StrengthOf.f, impl_StrengthOf.j0, impl_StrengthOf.j1, impl_StrengthOf.j2, impl_StrengthOf.j3, h1]⟩
  by_cases h2 : s.toList = ([61, 61] : List UInt8)
  · exact ⟨3, by simp [spec_l2Strength.f, spec_l2Strength.j0, spec_l2Strength.j1, spec_l2Strength.j2, spec_l2Strength.j3, h2], by simp [signB, impl_StrengthOf.f, impl_StrengthOf.j0, impl_StrengthOf.j1, impl_StrengthOf.j2, impl_StrengthOf.j3, h2]⟩
  by_cases h3 : s.toList = ([33, 61] : List UInt8)
  · exact ⟨3, by simp [spec_l2Strength.f, spec_l2Strength.j0, spec_l2Strength.j1, spec_l2Strength.j2, spec_l2Strength.j3, h3], by simp [signB, impl_StrengthOf.f, impl_StrengthOf.j0, impl_StrengthOf.j1, impl_StrengthOf.j2, impl_StrengthOf.j3, h3]⟩
  by_cases h4 : s.toList = ([60] : List UInt8)
  · exact ⟨4, by simp [spec_l2Strength.f, spec_l2Strength.j0, spec_l2Strength.j1, spec_l2Strength.j2, spec_l2Strength.j3, h4], by simp [signB, impl_StrengthOf.f, impl_StrengthOf.j0, impl_StrengthOf.j1, impl_StrengthOf.j2, impl_StrengthOf.j3, h4]⟩
  by_cases h5 : s.toList = ([60, 61] : List UInt8)
  · exact ⟨4, by simp [spec_l2Strength.f, spec_l2Strength.j0, spec_l2Strength.j1, spec_l2Strength.j2, spec_l2Strength.j3, h5], by simp [signB, impl_StrengthOf.f, impl_StrengthOf.j0, impl_StrengthOf.j1, impl_StrengthOf.j2, impl_StrengthOf.j3, h5]⟩
  by_cases h6 : s.toList = ([43] : List UInt8)
  · exact ⟨5, by simp [spec_l2Strength.f, spec_l2Strength.j0, spec_l2Strength.j1, spec_l2Strength.j2, spec_l2Strength.j3, h6], by simp [signB, impl_StrengthOf.f, impl_StrengthOf.j0, impl_StrengthOf.j1, impl_StrengthOf.j2, impl_StrengthOf.j3, h6]⟩
  by_cases h7 : s.toList = ([45] : List UInt8)
  · exact ⟨5, by simp [spec_l2Strength.f, spec_l2Strength.j0, spec_l2Strength.j1, spec_l2Strength.j2, spec_l2Strength.j3, h7], by simp [signB, impl_StrengthOf.f, impl_StrengthOf.j0, impl_StrengthOf.j1, impl_StrengthOf.j2, impl_StrengthOf.j3, h7]⟩
  by_cases h8 : s.toList = ([42] : List UInt8)
  · exact ⟨6, by simp [spec_l2Strength.f, spec_l2Strength.j0, spec_l2Strength.j1, spec_l2Strength.j2, spec_l2Strength.j3, h8], by simp [signB, impl_StrengthOf.f, impl_StrengthOf.j0, impl_StrengthOf.j1, impl_StrengthOf.j2, impl_StrengthOf.j3, h8]⟩
  by_cases h9 : s.toList = ([47] : List UInt8)
  · exact ⟨6, by simp [spec_l2Strength.f, spec_l2Strength.j0, spec_l2Strength.j1, spec_l2Strength.j2, spec_l2Strength.j3, h9], by simp [signB, impl_StrengthOf.f, impl_StrengthOf.j0, impl_StrengthOf.j1, impl_StrengthOf.j2, impl_StrengthOf.j3, h9]⟩
  by_cases h10 : s.toList = ([37] : List UInt8)
  · exact ⟨6, by simp [spec_l2Strength.f, spec_l2Strength.j0, spec_l2Strength.j1, spec_l2Strength.j2, spec_l2Strength.j3, h10], by simp [signB, impl_StrengthOf.f, impl_StrengthOf.j0, impl_StrengthOf.j1, impl_StrengthOf.j2, impl_StrengthOf.j3, h10]⟩
  by_cases h11 : s.toList = ([60, 60] : List UInt8)
  · exact ⟨7, by simp [spec_l2Strength.f, spec_l2Strength.j0, spec_l2Strength.j1, spec_l2Strength.j2, spec_l2Strength.j3, h11], by simp [signB, impl_StrengthOf.f, impl_StrengthOf.j0, impl_StrengthOf.j1, impl_StrengthOf.j2, impl_StrengthOf.j3, h11]⟩
  exact ⟨0, by simp [spec_l2Strength.f, spec_l2Strength.j0, spec_l2Strength.j1, spec_l2Strength.j2, spec_l2Strength.j3, h0, h1, h2, h3, h4, h5, h6, h7, h8, h9, h10, h11], by simp [signB, impl_StrengthOf.f, impl_StrengthOf.j0, impl_StrengthOf.j1, impl_StrengthOf.j2, impl_StrengthOf.j3, h0, h1, h2, h3, h4, h5, h6, h7, h8, h9, h10, h11]⟩

def cvE (x : S54) : S60 := ⟨x.f0, x.f1, x.f2⟩

theorem toExS_loop (l : List S54) (hl : l.length ≤ 8796093022208) : ∀ (d k i : Nat) (x3 : List S60), i + d = l.length → x3.length = l.length → (∀ j, j < i → x3[j]? = (l.map cvE)[j]?) → d < k → laws_toExS.l0 k l x3 (i : Int) = some (l.map cvE) := by
  intro d
  induction d with
  | zero =>
    intro k i x3 hi hx ht hk
    obtain ⟨k, rfl⟩ : ∃ m, k = m + 1 := ⟨k - 1, by omega⟩
    simp only [laws_toExS.l0]
    rw [if_neg (by omega)]
    congr 1
    apply List.ext_getElem?
    intro j
    by_cases hj : j < i
    · exact ht j hj
    · rw [List.getElem?_eq_none (by omega), List.getElem?_eq_none (by simp; omega)]
  | succ d ih =>
    intro k i x3 hi hx ht hk
    obtain ⟨k, rfl⟩ : ∃ m, k = m + 1 := ⟨k - 1, by omega⟩
    have hlt : i < l.length := by omega
    have hr : rd_T54 l (i : Int) = l[i] := by simp [rd_T54, List.getD_eq_getElem?_getD, List.getElem?_eq_getElem hlt]
    simp only [laws_toExS.l0]
    rw [if_pos (by omega), if_pos (by omega), hr]
    simp only [laws_toEx.f, Option.bind_some]
    rw [if_pos (by omega), wrap_id (by omega) (by omega)]
    have := ih k (i + 1) (x3.set i (cvE l[i])) (by omega) (by simp [hx]) (fun j hj => ?_) (by omega)
    · simpa [cvE] using this
    · by_cases hji : j = i
      · subst hji
        rw [List.getElem?_set_self (by omega)]
        simp [hlt]
      · rw [List.getElem?_set_ne (by omega)]
        exact ht j (by omega)

theorem toExS_eq (l : List S54) (hl : l.length ≤ 8796093022208) (k : Nat) (hk : l.length < k) : laws_toExS.f k l = some (l.map cvE) := by
  unfold laws_toExS.f
  rw [if_pos (by omega), if_pos (by omega)]
  exact toExS_loop l hl l.length k 0 _ (by omega) (by simp) (fun j hj => by omega) hk

theorem eqExS_loop (a : List S60) (hm : a.length ≤ 8796093022208) : ∀ (d k i : Nat), i + d = a.length → d < k → laws_eqExS.l0 k a a (i : Int) = some true := by
  intro d
  induction d with
  | zero =>
    intro k i hi hk
    obtain ⟨k, rfl⟩ : ∃ m, k = m + 1 := ⟨k - 1, by omega⟩
    simp only [laws_eqExS.l0]
    rw [if_neg (by omega)]
  | succ d ih =>
    intro k i hi hk
    obtain ⟨k, rfl⟩ : ∃ m, k = m + 1 := ⟨k - 1, by omega⟩
    simp only [laws_eqExS.l0]
    rw [if_pos (by omega), if_pos (by omega), if_pos (by omega), wrap_id (by omega) (by omega)]
    simp only [laws_eqEx.f, if_true, Option.bind_some]
    exact ih k (i + 1) (by omega) (by omega)

theorem eqExS_self (a : List S60) (hm : a.length ≤ 8796093022208) (k : Nat) (hk : a.length < k) : laws_eqExS.f k a a = some true := by
  unfold laws_eqExS.f
  rw [if_pos rfl]
  exact eqExS_loop a hm a.length k 0 (by omega) hk


theorem szExS_loop (l : List S54) (hl : l.length ≤ 1048576) : ∀ (d k i : Nat) (a : Int), i + d = l.length → d < k → a ≤ 1048576 → 0 ≤ a → (∀ x ∈ l, x.f2.size ≤ 9223372036854775807) →
    ∃ r, laws_szExS.l0 k l a (i : Int) = some r ∧ (0 ≤ r → ∀ x ∈ l.drop i, x.f2.size ≤ 1048576) := by
  intro d
  induction d with
  | zero =>
    intro k i a hi hk ha h0 hx
    obtain ⟨k, rfl⟩ : ∃ m, k = m + 1 := ⟨k - 1, by omega⟩
    simp only [laws_szExS.l0]
    rw [if_neg (by omega), List.drop_eq_nil_of_le (by omega)]
    exact ⟨a, rfl, fun _ x hx => by cases hx⟩
  | succ d ih =>
    intro k i a hi hk ha h0 hx
    obtain ⟨k, rfl⟩ : ∃ m, k = m + 1 := ⟨k - 1, by omega⟩
    have hlt : i < l.length := by omega
    have hr : rd_T54 l (i : Int) = l[i] := by simp [rd_T54, List.getD_eq_getElem?_getD, List.getElem?_eq_getElem hlt]
    have hxi := hx l[i] (List.getElem_mem _)
    simp only [laws_szExS.l0]
    rw [if_pos (by omega), if_pos (by omega), hr]
    unfold laws_szEx.f
    rw [wrap_id (x := a - (l[i].f2.size : Int)) (by omega) (by omega)]
    by_cases h : a - (l[i].f2.size : Int) < 0
    · rw [if_pos h]
      simp only [Option.bind_some]
      rw [if_pos (by omega)]
      exact ⟨-1, rfl, fun z => by omega⟩
    · rw [if_neg h]
      simp only [Option.bind_some]
      rw [if_neg h, wrap_id (x := (i : Int) + 1) (by omega) (by omega)]
      obtain ⟨r, e, h2⟩ := ih k (i + 1) (a - (l[i].f2.size : Int)) (by omega) (by omega) (by omega) (by omega) hx
      refine ⟨r, e, fun z x hx => ?_⟩
      rw [List.drop_eq_getElem_cons hlt] at hx
      rcases List.mem_cons.1 hx with rfl | hx
      · omega
      · exact h2 z x hx

theorem szExS_eq (l : List S54) (hl : l.length ≤ 9223372036854775807) (hx : ∀ x ∈ l, x.f2.size ≤ 9223372036854775807) (k : Nat) (hk : 1048577 < k) :
    ∃ r, laws_szExS.f k l 1048576 = some r ∧ (0 ≤ r → l.length ≤ 1048576 ∧ ∀ x ∈ l, x.f2.size ≤ 1048576) := by
  unfold laws_szExS.f
  rw [wrap_id (x := 1048576 - (l.length : Int)) (by omega) (by omega)]
  by_cases h : 1048576 - (l.length : Int) < 0
  · rw [if_pos h]; exact ⟨-1, rfl, fun z => by omega⟩
  · rw [if_neg h]
    obtain ⟨r, e, h2⟩ := szExS_loop l (by omega) l.length k 0 (1048576 - (l.length : Int)) (by omega) (by omega) (by omega) (by omega) hx
    simp only [Int.cast_ofNat_Int, List.drop_zero] at e h2
    exact ⟨r, e, fun z => ⟨by omega, h2 z⟩⟩

def xv : Xt → S57
  | .leaf k n t => ⟨k, n, t, []⟩
  | .one k n t a => ⟨k, n, t, [xv a]⟩
  | .two k n t a b => ⟨k, n, t, [xv a, xv b]⟩

theorem noText_eq (s : ByteArray) : (s.toList == ([] : List UInt8)) = noText s := by unfold noText; cases s.toList <;> rfl

theorem nameTok_eq (s : ByteArray) (hs : s.size ≤ 1048576) (k : Nat) (hk : 1048577 ≤ k) : spec_GoodToken.f k 2 0 s 0 = some (nameB s) := by
  unfold spec_GoodToken.f
  simp only [l1In_eq, Option.bind_some]
  have := specName_loop s (by omega) 2 0 0 s.size k 0 (by omega) (by omega) (by simp)
  simp only [Int.cast_ofNat_Int] at this
  simp [this]

theorem rd60_drop (l : List S60) (i : Nat) (x : S60) (r : List S60) (h : l.drop i = x :: r) : rd_T60 l (i : Int) = x := by
  have : l[i]? = some x := by rw [← List.head?_drop, h]; rfl
  simp [rd_T60, List.getD_eq_getElem?_getD, this]

theorem s57_eta (x : S57) : (⟨x.f0, x.f1, x.f2, x.f3⟩ : S57) = x := by cases x; rfl

theorem l2Read_eq (l : List S60) (hm : l.length ≤ 1000) (hsz : ∀ x ∈ l, x.f2.size ≤ 1048576) : ∀ (m : Nat) (i : Nat) (r : List S60), l.drop i = r → i ≤ l.length → r.length < m → ∀ k, 8 * m + 2000000 ≤ k →
    match xparse m r with
    | none => ∃ a b c d, spec_l2Read.f k l (i : Int) = some (a, b, c, d, 0)
    | some (t, rest) => spec_l2Read.f k l (i : Int) = some ((xv t).f0, (xv t).f1, (xv t).f2, (xv t).f3, ((l.length - rest.length : Nat) : Int)) ∧ l.drop (l.length - rest.length) = rest := by
  intro m
  induction m with
  | zero => intro i r _ _ h; omega
  | succ m ih =>
    intro i r hr hi hrm k hk
    obtain ⟨k, rfl⟩ : ∃ q, k = q + 5 + 3 := ⟨k - 8, by omega⟩
    cases r with
    | nil =>
      have : l.length ≤ i := by have := congrArg List.length hr; simp at this; omega
      simp only [xparse]
      refine ⟨0, 0, (⟨#[]⟩ : ByteArray), [], ?_⟩
      simp only [spec_l2Read.f]
      rw [if_pos (by omega)]
    | cons x r =>
      have hlen : l.length - i = r.length + 1 := by have := congrArg List.length hr; simp at this; omega
      have hr1 : l.drop (i + 1) = r := by rw [← List.drop_drop, hr]; rfl
      have hx := rd60_drop l i x r hr
      have hxm : x ∈ l := List.mem_of_mem_drop (by rw [hr]; simp)
      have hsx := hsz x hxm
      have hJ1 : ∀ k many ok, spec_l2Read.j1 (k + 1) l (i : Int) many ok x.f0 x.f1 x.f2 = if ok = true then spec_l2Read.l0 k l ((i : Int) + 1) many x.f0 x.f1 x.f2 [] else some (0, 0, (⟨#[]⟩ : ByteArray), [], 0) := by
        intro k many ok
        simp only [spec_l2Read.j1]
        rw [wrap_id (by omega) (by omega)]
      have hL0 : ∀ k (at_ : Int) ks, spec_l2Read.l0 (k + 1) l at_ 0 x.f0 x.f1 x.f2 ks = some (x.f0, x.f1, x.f2, ks, at_) := by
        intro k at_ ks; simp only [spec_l2Read.l0]; rw [if_neg (by omega)]
      have e1 : l.length - r.length = i + 1 := by omega
      have hS : spec_l2Read.f (k + 5 + 3) l (i : Int) =
          if x.f0 = 1 then (if decide (0 ≤ x.f1 ∧ x.f1 ≤ 999999999) = true then spec_l2Read.j1 (k + 5 + 2) l (i : Int) 0 (noText x.f2) x.f0 x.f1 x.f2 else spec_l2Read.j1 (k + 5 + 2) l (i : Int) 0 false x.f0 x.f1 x.f2)
          else if x.f0 = 2 then (if nameB x.f2 = true then spec_l2Read.j1 (k + 5 + 2) l (i : Int) 0 (x.f1 == 0) x.f0 x.f1 x.f2 else spec_l2Read.j1 (k + 5 + 2) l (i : Int) 0 false x.f0 x.f1 x.f2)
          else if x.f0 = 3 ∨ x.f0 = 4 then (if x.f1 = 0 then spec_l2Read.j1 (k + 5 + 1) l (i : Int) 1 (noText x.f2) x.f0 x.f1 x.f2 else spec_l2Read.j1 (k + 5 + 1) l (i : Int) 1 false x.f0 x.f1 x.f2)
          else if x.f0 = 5 then (if x.f1 = 0 then spec_l2Read.j1 (k + 5 + 1) l (i : Int) 2 (signB x.f2) x.f0 x.f1 x.f2 else spec_l2Read.j1 (k + 5 + 1) l (i : Int) 2 false x.f0 x.f1 x.f2)
          else spec_l2Read.j1 (k + 5 + 1) l (i : Int) 0 false x.f0 x.f1 x.f2 := by
        simp only [spec_l2Read.f]
        rw [if_neg (by omega), if_pos (by omega), if_pos (by omega), hx]
        simp only [l1In_eq, Option.bind_some, noText_eq]
        rw [nameTok_eq x.f2 hsx _ (by omega)]
        simp only [Option.bind_some]
        by_cases a1 : x.f0 = 1
        · rw [if_pos a1, if_pos a1]
        rw [if_neg a1, if_neg a1]
        by_cases a2 : x.f0 = 2
        · rw [if_pos a2, if_pos a2]
        rw [if_neg a2, if_neg a2]
        obtain ⟨n, hn, hp⟩ := strength_pos x.f2 (k + 1)
        by_cases a3 : x.f0 = 3
        · rw [if_pos a3, if_pos (show x.f0 = 3 ∨ x.f0 = 4 from Or.inl a3)]
          simp only [spec_l2Read.j0, noText_eq]
          rw [if_pos (show (x.f0 == 3) = true by simp [a3])]
        rw [if_neg a3]
        simp only [spec_l2Read.j0, noText_eq]
        by_cases a4 : x.f0 = 4
        · rw [if_pos (show (x.f0 == 4) = true by simp [a4]), if_pos (show x.f0 = 3 ∨ x.f0 = 4 from Or.inr a4)]
        rw [if_neg (show ¬ ((x.f0 == 4) = true) by simp [a4]), if_neg (show ¬ (x.f0 = 3 ∨ x.f0 = 4) from fun z => z.elim a3 a4)]
        by_cases a5 : x.f0 = 5
        · rw [if_pos a5, if_pos a5]
          rw [show k + 5 + 1 = k + 1 + 5 by omega, hn]
          simp only [Option.bind_some, hp]
        rw [if_neg a5, if_neg a5]
      rw [hS]
      clear hS
      have A := ih (i + 1) r hr1 (by omega) (by simp at hrm; omega)
      simp only [Int.natCast_add, Int.cast_ofNat_Int] at A
      by_cases a1 : x.f0 = 1
      · rw [if_pos a1, hJ1, hJ1, hL0]
        by_cases h : 0 ≤ x.f1 ∧ x.f1 ≤ 999999999
        · rw [if_pos (decide_eq_true h)]
          by_cases hn : noText x.f2 = true
          · have hc : xparse (m + 1) (x :: r) = some (.leaf x.f0 x.f1 x.f2, r) := by simp only [xparse, if_pos a1]; rw [if_pos ⟨h, hn⟩]
            rw [hc, if_pos hn]
            exact ⟨by rw [e1]; simp [xv], by rw [e1]; exact hr1⟩
          · have hc : xparse (m + 1) (x :: r) = none := by simp only [xparse, if_pos a1]; rw [if_neg (fun z => hn z.2)]
            rw [hc, if_neg hn]
            exact ⟨_, _, _, _, rfl⟩
        · have hc : xparse (m + 1) (x :: r) = none := by simp only [xparse, if_pos a1]; rw [if_neg (fun z => h z.1)]
          rw [hc, if_neg (fun z => h (of_decide_eq_true z)), if_neg (by simp)]
          exact ⟨_, _, _, _, rfl⟩
      rw [if_neg a1]
      by_cases a2 : x.f0 = 2
      · rw [if_pos a2, hJ1, hJ1, hL0]
        by_cases hn : nameB x.f2 = true
        · rw [if_pos hn]
          by_cases h : x.f1 = 0
          · have hc : xparse (m + 1) (x :: r) = some (.leaf x.f0 x.f1 x.f2, r) := by simp only [xparse, if_neg a1, if_pos a2]; rw [if_pos ⟨h, hn⟩]
            rw [hc, if_pos (by simp [h])]
            exact ⟨by rw [e1]; simp [xv], by rw [e1]; exact hr1⟩
          · have hc : xparse (m + 1) (x :: r) = none := by simp only [xparse, if_neg a1, if_pos a2]; rw [if_neg (fun z => h z.1)]
            rw [hc, if_neg (by simp [h])]
            exact ⟨_, _, _, _, rfl⟩
        · have hc : xparse (m + 1) (x :: r) = none := by simp only [xparse, if_neg a1, if_pos a2]; rw [if_neg (fun z => hn z.2)]
          rw [hc, if_neg hn, if_neg (by simp)]
          exact ⟨_, _, _, _, rfl⟩
      rw [if_neg a2]
      by_cases a3 : x.f0 = 3 ∨ x.f0 = 4
      · rw [if_pos a3, hJ1, hJ1]
        by_cases h : x.f1 = 0 ∧ noText x.f2 = true
        · rw [if_pos h.1, if_pos h.2]
          rw [show k + 5 = (k + 3) + 1 + 1 by omega]
          simp only [spec_l2Read.l0]
          rw [if_pos (show (1 : Int) > 0 by omega)]
          have A := A (k + 3 + 1) (by omega)
          cases hq : xparse m r with
          | none =>
            rw [hq] at A
            obtain ⟨a, b, c, d, A⟩ := A
            have hc : xparse (m + 1) (x :: r) = none := by simp only [xparse, if_neg a1, if_neg a2, if_pos a3, hq]
            rw [hc]
            simp only [A, Option.bind_some, if_true]
            exact ⟨_, _, _, _, rfl⟩
          | some q =>
            obtain ⟨ta, r1⟩ := q
            rw [hq] at A
            obtain ⟨A, A'⟩ := A
            have hl1 := (xparse_len _ _ _ _ hq).1
            have hc : xparse (m + 1) (x :: r) = some (.one x.f0 x.f1 x.f2 ta, r1) := by simp only [xparse, if_neg a1, if_neg a2, if_pos a3, hq]; rw [if_pos h]
            rw [hc]
            simp only [A, Option.bind_some]
            rw [if_neg (show ¬ ((l.length - r1.length : Nat) : Int) = 0 by omega), if_pos (show ([] : List S57).length < 2513169434916 by simp), wrap_id (by omega) (by omega), if_neg (show ¬ (1 : Int) - 1 > 0 by omega)]
            exact ⟨by simp only [xv, List.nil_append, s57_eta], A'⟩
        · have hz : (if x.f1 = 0 then (if noText x.f2 = true then spec_l2Read.l0 (k + 5) l ((i : Int) + 1) 1 x.f0 x.f1 x.f2 [] else some (0, 0, (⟨#[]⟩ : ByteArray), [], 0)) else (if false = true then spec_l2Read.l0 (k + 5) l ((i : Int) + 1) 1 x.f0 x.f1 x.f2 [] else some (0, 0, (⟨#[]⟩ : ByteArray), [], 0))) = some (0, 0, (⟨#[]⟩ : ByteArray), [], 0) := by
            by_cases h0 : x.f1 = 0
            · rw [if_pos h0, if_neg (fun z => h ⟨h0, z⟩)]
            · rw [if_neg h0, if_neg (by simp)]
          rw [hz]
          have hc : xparse (m + 1) (x :: r) = none := by
            simp only [xparse, if_neg a1, if_neg a2, if_pos a3]
            cases hq : xparse m r with
            | none => rfl
            | some q => obtain ⟨ta, r1⟩ := q; simp only; rw [if_neg h]
          rw [hc]
          exact ⟨_, _, _, _, rfl⟩
      rw [if_neg a3]
      by_cases a5 : x.f0 = 5
      · rw [if_pos a5, hJ1, hJ1]
        by_cases h : signB x.f2 = true ∧ x.f1 = 0
        · rw [if_pos h.2, if_pos h.1]
          rw [show k + 5 = (k + 2) + 1 + 1 + 1 by omega]
          simp only [spec_l2Read.l0]
          rw [if_pos (show (2 : Int) > 0 by omega)]
          have A1 := A (k + 2 + 1 + 1) (by omega)
          cases hq : xparse m r with
          | none =>
            rw [hq] at A1
            obtain ⟨a, b, c, d, A1⟩ := A1
            have hc : xparse (m + 1) (x :: r) = none := by simp only [xparse, if_neg a1, if_neg a2, if_neg a3, if_pos a5, hq]
            rw [hc]
            simp only [A1, Option.bind_some, if_true]
            exact ⟨_, _, _, _, rfl⟩
          | some q =>
            obtain ⟨ta, r1⟩ := q
            rw [hq] at A1
            obtain ⟨A1, A'⟩ := A1
            have hl1 := (xparse_len _ _ _ _ hq).1
            have B := ih (l.length - r1.length) r1 A' (by omega) (by simp at hrm; omega) (k + 2 + 1) (by omega)
            have w1 : wrap64 (2 - 1) = 1 := by rw [wrap_id (by omega) (by omega)]; rfl
            simp only [A1, Option.bind_some]
            rw [if_neg (show ¬ ((l.length - r1.length : Nat) : Int) = 0 by omega), if_pos (show ([] : List S57).length < 2513169434916 by simp), w1, if_pos (show (1 : Int) > 0 by omega)]
            cases hq2 : xparse m r1 with
            | none =>
              rw [hq2] at B
              obtain ⟨a, b, c, d, B⟩ := B
              have hc : xparse (m + 1) (x :: r) = none := by simp only [xparse, if_neg a1, if_neg a2, if_neg a3, if_pos a5, hq, hq2]
              rw [hc]
              simp only [B, Option.bind_some, if_true]
              exact ⟨_, _, _, _, rfl⟩
            | some q2 =>
              obtain ⟨tb, r2⟩ := q2
              rw [hq2] at B
              obtain ⟨B, B'⟩ := B
              have hl2 := (xparse_len _ _ _ _ hq2).1
              have hc : xparse (m + 1) (x :: r) = some (.two x.f0 x.f1 x.f2 ta tb, r2) := by simp only [xparse, if_neg a1, if_neg a2, if_neg a3, if_pos a5, hq, hq2]; rw [if_pos h]
              rw [hc]
              simp only [B, Option.bind_some]
              rw [if_neg (show ¬ ((l.length - r2.length : Nat) : Int) = 0 by omega), if_pos (by simp), wrap_id (by omega) (by omega), if_neg (show ¬ (1 : Int) - 1 > 0 by omega)]
              exact ⟨by simp only [xv, List.nil_append, List.singleton_append, s57_eta, List.cons_append], B'⟩
        · have hz : (if x.f1 = 0 then (if signB x.f2 = true then spec_l2Read.l0 (k + 5) l ((i : Int) + 1) 2 x.f0 x.f1 x.f2 [] else some (0, 0, (⟨#[]⟩ : ByteArray), [], 0)) else (if false = true then spec_l2Read.l0 (k + 5) l ((i : Int) + 1) 2 x.f0 x.f1 x.f2 [] else some (0, 0, (⟨#[]⟩ : ByteArray), [], 0))) = some (0, 0, (⟨#[]⟩ : ByteArray), [], 0) := by
            by_cases h0 : x.f1 = 0
            · rw [if_pos h0, if_neg (fun z => h ⟨z, h0⟩)]
            · rw [if_neg h0, if_neg (by simp)]
          rw [hz]
          have hc : xparse (m + 1) (x :: r) = none := by
            simp only [xparse, if_neg a1, if_neg a2, if_neg a3, if_pos a5]
            cases hq : xparse m r with
            | none => rfl
            | some q =>
              obtain ⟨ta, r1⟩ := q
              simp only
              cases hq2 : xparse m r1 with
              | none => rfl
              | some q2 => obtain ⟨tb, r2⟩ := q2; simp only; rw [if_neg h]
          rw [hc]
          exact ⟨_, _, _, _, rfl⟩
      have hc : xparse (m + 1) (x :: r) = none := by simp only [xparse, if_neg a1, if_neg a2, if_neg a3, if_neg a5]
      rw [if_neg a5, hJ1, hc, if_neg (by simp)]
      exact ⟨_, _, _, _, rfl⟩

theorem l2Tree_eq (l : List S60) (hsz : ∀ x ∈ l, x.f2.size ≤ 1048576) (k : Nat) (hk : 2001000 ≤ k) : match xof l with
    | none => ∃ a b c d, spec_l2Tree.f k l = some (a, b, c, d, false)
    | some t => spec_l2Tree.f k l = some ((xv t).f0, (xv t).f1, (xv t).f2, (xv t).f3, true) := by
  by_cases h : l.length ≤ 40
  · have R := l2Read_eq l (by omega) hsz 41 0 l rfl (by omega) (by omega) k (by omega)
    unfold spec_l2Tree.f
    rw [if_neg (by omega)]
    cases hq : xparse 41 l with
    | none =>
      rw [hq] at R
      obtain ⟨a, b, c, d, R⟩ := R
      have hc : xof l = none := by unfold xof; rw [if_pos h, hq]
      simp only [Int.cast_ofNat_Int] at R
      rw [R, hc]
      exact ⟨a, b, c, d, by simp⟩
    | some q =>
      obtain ⟨t, r⟩ := q
      rw [hq] at R
      obtain ⟨R, R'⟩ := R
      have hl := (xparse_len _ _ _ _ hq).1
      simp only [Int.cast_ofNat_Int] at R
      rw [R]
      simp only [Option.bind_some]
      rw [if_pos (by omega)]
      cases r with
      | nil =>
        have hc : xof l = some t := by unfold xof; rw [if_pos h, hq]
        rw [hc]
        simp
      | cons x r =>
        have hc : xof l = none := by unfold xof; rw [if_pos h, hq]
        rw [hc]
        refine ⟨(xv t).f0, (xv t).f1, (xv t).f2, (xv t).f3, ?_⟩
        simp at hl ⊢
        omega
  · have hc : xof l = none := by unfold xof; rw [if_neg h]
    rw [hc]
    unfold spec_l2Tree.f
    rw [if_pos (by omega)]
    exact ⟨_, _, _, _, rfl⟩

theorem specGood_eq (l : List S60) (hsz : ∀ x ∈ l, x.f2.size ≤ 1048576) (k : Nat) (hk : 2001000 ≤ k) : spec_GoodExpr.f k l = some (xof l).isSome := by
  have h := l2Tree_eq l hsz k hk
  unfold spec_GoodExpr.f
  cases hq : xof l with
  | none => rw [hq] at h; obtain ⟨a, b, c, d, h⟩ := h; rw [h]; rfl
  | some t => rw [hq] at h; simp only at h; rw [h]; rfl

theorem l2D_f (k : Nat) (a b : Int) (c : ByteArray) (l : List S57) : spec_l2Depth.f (k + 1) a b c l = spec_l2Depth.l0 k 0 l (l.length : Int) 0 := by simp only [spec_l2Depth.f]
theorem l2D_step (k : Nat) (n : Int) (l : List S57) (i : Nat) (x : S57) (hl : l.length ≤ 1000) (h : l[i]? = some x) : spec_l2Depth.l0 (k + 1) n l (l.length : Int) (i : Int) = (spec_l2Depth.f k x.f0 x.f1 x.f2 x.f3).bind fun t => if t > n then spec_l2Depth.l0 k t l (l.length : Int) ((i + 1 : Nat) : Int) else spec_l2Depth.l0 k n l (l.length : Int) ((i + 1 : Nat) : Int) := by
  have hlt : i < l.length := by
    rcases Nat.lt_or_ge i l.length with z | z
    · exact z
    · rw [List.getElem?_eq_none z] at h; cases h
  have hr : rd_T57 l (i : Int) = x := by simp [rd_T57, List.getD_eq_getElem?_getD, h]
  simp only [spec_l2Depth.l0]
  rw [if_pos (by omega), if_pos (by omega), if_pos (by omega), hr, wrap_id (by omega) (by omega)]
  rfl
theorem l2D_end (k : Nat) (n : Int) (l : List S57) (i : Nat) (h : l.length = i) (h0 : 0 ≤ n) (h1 : n ≤ 1000000) : spec_l2Depth.l0 (k + 1) n l (l.length : Int) (i : Int) = some (n + 1) := by
  simp only [spec_l2Depth.l0]
  rw [if_neg (by omega), wrap_id (by omega) (by omega)]

theorem l2Depth_eq (t : Xt) : ∀ k, 8 * t.tall ≤ k → t.tall ≤ 1000 → spec_l2Depth.f k (xv t).f0 (xv t).f1 (xv t).f2 (xv t).f3 = some (t.dep : Int) := by
  induction t with
  | leaf kk n s =>
    intro k hk ht
    simp only [Xt.tall] at hk
    obtain ⟨k, rfl⟩ : ∃ q, k = q + 2 := ⟨k - 2, by omega⟩
    show spec_l2Depth.f (k + 2) kk n s [] = _
    rw [l2D_f]
    exact l2D_end k 0 [] 0 rfl (by omega) (by omega)
  | one kk n s a ih =>
    intro k hk ht
    have ha := tall_le a
    simp only [Xt.tall] at hk ht
    obtain ⟨k, rfl⟩ : ∃ q, k = q + 3 := ⟨k - 3, by omega⟩
    show spec_l2Depth.f (k + 3) kk n s [xv a] = _
    have s1 := l2D_step (k + 1) 0 [xv a] 0 (xv a) (by simp) rfl
    rw [ih (k + 1) (by omega) (by omega), Option.bind_some, if_pos (by omega), l2D_end k _ [xv a] 1 rfl (by omega) (by omega)] at s1
    rw [l2D_f]
    simp only [Int.cast_ofNat_Int] at s1
    rw [s1]
    simp only [Xt.dep]
    congr 1
    omega
  | two kk n s a b iha ihb =>
    intro k hk ht
    have ha := tall_le a
    have hb := tall_le b
    simp only [Xt.tall] at hk ht
    obtain ⟨k, rfl⟩ : ∃ q, k = q + 4 := ⟨k - 4, by omega⟩
    show spec_l2Depth.f (k + 4) kk n s [xv a, xv b] = _
    have s1 := l2D_step (k + 2) 0 [xv a, xv b] 0 (xv a) (by simp) rfl
    have s2 := l2D_step (k + 1) (a.dep : Int) [xv a, xv b] 1 (xv b) (by simp) rfl
    rw [iha (k + 2) (by omega) (by omega), Option.bind_some, if_pos (by omega)] at s1
    rw [ihb (k + 1) (by omega) (by omega), Option.bind_some, l2D_end k _ [xv a, xv b] 2 rfl (by omega) (by omega), l2D_end k _ [xv a, xv b] 2 rfl (by omega) (by omega)] at s2
    rw [s2] at s1
    rw [l2D_f]
    simp only [Int.cast_ofNat_Int] at s1
    rw [s1]
    simp only [Xt.dep]
    split
    · congr 1; omega
    · congr 1; omega

theorem specDepth_eq (l : List S60) (hsz : ∀ x ∈ l, x.f2.size ≤ 1048576) (k : Nat) (hk : 2001000 ≤ k) : spec_DepthOf.f k l = some (depthOf l) := by
  have h := l2Tree_eq l hsz k hk
  unfold spec_DepthOf.f depthOf
  cases hq : xof l with
  | none => rw [hq] at h; obtain ⟨a, b, c, d, h⟩ := h; rw [h]; rfl
  | some t =>
    rw [hq] at h
    simp only at h
    rw [h]
    simp only [Option.bind_some, if_true]
    have ht := (xof_tall hq).1
    rw [l2Depth_eq t k (by omega) (by omega)]
    rfl

end Go.Proofs.Ytkmobaffmlcaiaa.PAll
