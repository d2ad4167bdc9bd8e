/- A token read by both. -/
import Derived.Test.YtkmobaffmlcaiaaDoorHlexB
import Derived.Test.YtkmobaffmlcaiaaDoorQword
import Derived.Test.YtkmobaffmlcaiaaDoorPAllx11
import Derived.Lib.IndexBytes
namespace Go.Proofs.YtkmobaffmlcaiaaDoor.PAll
open Go.RowKit Go.Proofs.YtkmobaffmlcaiaaDoorW.PrintWords Go.Proofs.YtkmobaffmlcaiaaDoorW.PrintLast Go.Proofs.YtkmobaffmlcaiaaDoorW.PrintMore
set_option linter.unusedVariables false
set_option linter.unusedSimpArgs false

theorem size_len (s : ByteArray) : s.size = s.data.toList.length := by rw [Array.length_toList, ByteArray.size_data]
theorem bt_at (s : ByteArray) (i : Nat) (b : UInt8) (h : s.data.toList[i]? = some b) : bt s (i : Int) = (b.toNat : Int) := by
  have hi : i < s.size := by
    rcases Nat.lt_or_ge i s.size with h1 | h1
    · exact h1
    · rw [List.getElem?_eq_none (by rw [← size_len]; exact h1)] at h; cases h
  have h2 := Lib.data_getElem? s i hi
  rw [h] at h2
  unfold bt
  rw [Int.toNat_natCast, dif_pos hi]
  rw [Option.some.inj h2]
theorem ext_data {a b : ByteArray} (h : a.data.toList = b.data.toList) : a = b := ByteArray.ext (Array.ext' h)
theorem digit_eq (c : Int) : spec_l1Digit.f c = some (digI c) := by
  unfold spec_l1Digit.f digI
  by_cases h : 48 ≤ c <;> simp [h]
/-- The first that is not so, in a list. -/
theorem tw_full {p : UInt8 → Bool} {l : List UInt8} {m : Nat} (hm : m < (l.takeWhile p).length) : ∃ b, l[m]? = some b ∧ p b = true := by
  have hp := List.takeWhile_prefix p (l := l)
  have hl : m < l.length := Nat.lt_of_lt_of_le hm hp.length_le
  refine ⟨l[m], by simp [hl], ?_⟩
  have h1 : (l.takeWhile p)[m] = l[m] := hp.getElem hm
  rw [← h1]
  have := List.all_takeWhile (l := l) (p := p)
  rw [List.all_eq_true] at this
  exact this _ (List.getElem_mem hm)
theorem tw_end : ∀ {p : UInt8 → Bool} {l : List UInt8} {b : UInt8}, l[(l.takeWhile p).length]? = some b → p b = false := by
  intro p l
  induction l with
  | nil => intro b h; simp at h
  | cons c r ih =>
    intro b h
    by_cases hc : p c = true
    · rw [List.takeWhile_cons_of_pos hc] at h
      exact ih (by simpa using h)
    · rw [List.takeWhile_cons_of_neg hc] at h
      simp at h
      subst h
      simpa using hc
/-- What the reference tells of the token that the program reads. -/
def tokAt (s : ByteArray) (at_ : Nat) : Int × Int × ByteArray × Int × Int :=
  let t := tokOf (s.extract at_ s.size)
  if t.2.2.2.2 = 0 then (0, 0, ⟨#[]⟩, 0, 0) else (t.1, t.2.1, t.2.2.1, (at_ : Int), (at_ : Int) + t.2.2.2.2)

theorem rest_data (s : ByteArray) (a : Nat) : (s.extract a s.size).data.toList = s.data.toList.drop a := Lib.extract_to_end s a
theorem rest_at (s : ByteArray) (a m : Nat) : s.data.toList[a + m]? = (s.extract a s.size).data.toList[m]? := by rw [rest_data, List.getElem?_drop]

theorem digit_loop (s : ByteArray) (a : Nat) (hs : s.size ≤ 100000) (h0 : bt s (a : Int) = bt (s.extract a s.size) 0) : ∀ (d k m v : Nat), m + d = leadD (s.extract a s.size) → 2 * d + 2 ≤ k → m ≤ 9 → (1 < m → bt (s.extract a s.size) 0 ≠ 48) →
    Lib.decFrom 0 ((s.extract a s.size).data.toList.take m) = some v → a < s.size →
    spec_l1Token.l0 k s (a : Int) ((a + m : Nat) : Int) (v : Int) = some (if 9 < leadD (s.extract a s.size) ∨ (1 < leadD (s.extract a s.size) ∧ bt (s.extract a s.size) 0 = 48) then (0, 0, ⟨#[]⟩, 0, 0) else (1, decV ((s.extract a s.size).data.toList.take (leadD (s.extract a s.size))), ⟨#[]⟩, (a : Int), (a : Int) + (leadD (s.extract a s.size) : Int))) := by
  obtain ⟨t, ht⟩ : ∃ t, t = s.extract a s.size := ⟨_, rfl⟩
  have hat : ∀ m, s.data.toList[a + m]? = t.data.toList[m]? := fun m => by rw [ht]; exact rest_at s a m
  have hts : t.size = s.size - a := by rw [ht, ByteArray.size_extract]; omega
  rw [← ht] at h0 ⊢
  have hld := leadD_le t
  intro d
  induction d with
  | zero =>
    intro k m v hm hk h9 h48 hv ha
    obtain ⟨k, rfl⟩ : ∃ q, k = q + 2 := ⟨k - 2, by omega⟩
    have hmd : m = leadD t := by omega
    have hres : spec_l1Token.j1 (k + 1) s (a : Int) ((a + m : Nat) : Int) (v : Int) false = some (if 9 < leadD t ∨ (1 < leadD t ∧ bt t 0 = 48) then (0, 0, ⟨#[]⟩, 0, 0) else (1, decV (t.data.toList.take (leadD t)), ⟨#[]⟩, (a : Int), (a : Int) + (leadD t : Int))) := by
      simp only [spec_l1Token.j1]
      rw [if_neg (by decide), if_neg (fun h => by rcases h with h | h; omega; exact h48 (by omega) h.2), ← hmd]
      unfold decV
      rw [hv]
      simp
    simp only [spec_l1Token.l0]
    by_cases hlt : a + m < s.size
    · rw [if_pos (by omega), if_pos (by omega)]
      have hml : m < t.data.toList.length := by rw [← size_len]; omega
      obtain ⟨b, hb⟩ : ∃ b, t.data.toList[m]? = some b := ⟨t.data.toList[m], by simp [hml]⟩
      rw [bt_at s (a + m) b ((hat m).trans hb), digit_eq, Option.bind_some]
      have : digB b = false := by
        apply tw_end (l := t.data.toList)
        show t.data.toList[leadD t]? = some b
        rw [← hmd]; exact hb
      rw [show digI (b.toNat : Int) = false from this]
      exact hres
    · rw [if_neg (by omega)]
      exact hres
  | succ d ih =>
    intro k m v hm hk h9 h48 hv ha
    obtain ⟨k, rfl⟩ : ∃ q, k = q + 2 := ⟨k - 2, by omega⟩
    obtain ⟨b, hb, hdb⟩ := tw_full (p := digB) (l := t.data.toList) (m := m) (by show m < leadD t; omega)
    obtain ⟨x, hx⟩ := digB_val hdb
    obtain ⟨x1, x2, x3⟩ := Lib.digitVal_eq hx
    have hvl : v < 10 ^ 9 := by
      have h1 := Lib.decFrom_lt _ _ _ hv
      have h2 : (t.data.toList.take m).length ≤ 9 := by rw [List.length_take]; omega
      have : 10 ^ (t.data.toList.take m).length ≤ 10 ^ 9 := Nat.pow_le_pow_right (by omega) h2
      omega
    have hp9 : (10 : Nat) ^ 9 = 1000000000 := by decide
    simp only [spec_l1Token.l0, spec_l1Token.j1]
    rw [if_pos (by omega), if_pos (by omega), bt_at s (a + m) b ((hat m).trans hb), digit_eq, Option.bind_some, show digI (b.toNat : Int) = true from hdb, if_pos rfl, wrap_id (x := ((a + m : Nat) : Int) - (a : Int)) (by omega) (by omega)]
    by_cases hm9 : 9 ≤ m
    · rw [if_pos (by omega), if_pos (.inl (by omega))]
    · rw [if_neg (by omega)]
      have go : (1 < m + 1 → bt t 0 ≠ 48) → spec_l1Token.l0 k s (a : Int) (wrap64 (((a + m : Nat) : Int) + 1)) (wrap64 (wrap64 (10 * (v : Int)) + ((b.toNat : Int) - 48) % 256)) = some (if 9 < leadD t ∨ (1 < leadD t ∧ bt t 0 = 48) then (0, 0, ⟨#[]⟩, 0, 0) else (1, decV (t.data.toList.take (leadD t)), ⟨#[]⟩, (a : Int), (a : Int) + (leadD t : Int))) := by
        intro h48'
        rw [wrap_id (x := 10 * (v : Int)) (by omega) (by omega), wrap_id (x := ((a + m : Nat) : Int) + 1) (by omega) (by omega), wrap_id (by omega) (by omega)]
        have e1 : 10 * (v : Int) + ((b.toNat : Int) - 48) % 256 = ((v * 10 + x : Nat) : Int) := by omega
        have e2 : ((a + m : Nat) : Int) + 1 = ((a + (m + 1) : Nat) : Int) := by omega
        rw [e1, e2]
        exact ih k (m + 1) _ (by omega) (by omega) (by omega) h48' (Lib.decFrom_take _ _ _ _ _ _ hv hb hx) ha
      by_cases hm0 : 0 < m
      · rw [if_pos (by omega), if_pos (by omega), if_pos (by omega), h0]
        by_cases h : bt t 0 = 48
        · rw [if_pos h, if_pos (.inr ⟨by omega, h⟩)]
        · rw [if_neg h, if_pos (by omega), if_pos (by omega)]
          exact go (fun _ => h)
      · rw [if_neg (by omega), if_pos (by omega), if_pos (by omega)]
        exact go (fun h => by omega)
theorem letter_loop (s : ByteArray) (a : Nat) (hs : s.size ≤ 100000) : ∀ (d k m : Nat), m + d = lead (s.extract a s.size) → d + 2 ≤ k → a < s.size →
    spec_l1Token.l1 k s (a : Int) ((a + m : Nat) : Int) = some (if 8 < lead (s.extract a s.size) then (0, 0, ⟨#[]⟩, 0, 0) else (2, 0, (s.extract a s.size).extract 0 (lead (s.extract a s.size)), (a : Int), (a : Int) + (lead (s.extract a s.size) : Int))) := by
  obtain ⟨t, ht⟩ : ∃ t, t = s.extract a s.size := ⟨_, rfl⟩
  have hat : ∀ m, s.data.toList[a + m]? = t.data.toList[m]? := fun m => by rw [ht]; exact rest_at s a m
  have hts : t.size = s.size - a := by rw [ht, ByteArray.size_extract]; omega
  have htd : t.data.toList = s.data.toList.drop a := by rw [ht, rest_data]
  rw [← ht]
  have hld := lead_le t
  intro d
  induction d with
  | zero =>
    intro k m hm hk ha
    obtain ⟨k, rfl⟩ : ∃ q, k = q + 2 := ⟨k - 2, by omega⟩
    have hmd : m = lead t := by omega
    have hres : spec_l1Token.j3 (k + 1) s (a : Int) ((a + m : Nat) : Int) = some (if 8 < lead t then (0, 0, ⟨#[]⟩, 0, 0) else (2, 0, t.extract 0 (lead t), (a : Int), (a : Int) + (lead t : Int))) := by
      simp only [spec_l1Token.j3]
      rw [wrap_id (x := ((a + m : Nat) : Int) - (a : Int)) (by omega) (by omega), ← hmd]
      by_cases h8 : 8 < m
      · rw [if_pos (by omega), if_pos h8]
      · rw [if_neg (by omega), if_neg h8, if_pos (by omega), if_pos (by omega), if_pos (by omega)]
        have e : s.extract (a : Int).toNat ((a + m : Nat) : Int).toNat = t.extract 0 m := by
          apply ext_data
          rw [Lib.extract_data, Lib.extract_data, htd, Int.toNat_natCast, Int.toNat_natCast, List.drop_zero, show a + m - a = m by omega, Nat.sub_zero]
        rw [e, Int.natCast_add]
    simp only [spec_l1Token.l1]
    by_cases hlt : a + m < s.size
    · rw [if_pos (by omega), if_pos (by omega)]
      have hml : m < t.data.toList.length := by rw [← size_len]; omega
      obtain ⟨b, hb⟩ : ∃ b, t.data.toList[m]? = some b := ⟨t.data.toList[m], by simp [hml]⟩
      rw [bt_at s (a + m) b ((hat m).trans hb), letter_eq, Option.bind_some]
      have : lettB b = false := by
        apply tw_end (l := t.data.toList)
        show t.data.toList[lead t]? = some b
        rw [← hmd]; exact hb
      rw [show lettI (b.toNat : Int) = false from this, if_neg (by decide)]
      exact hres
    · rw [if_neg (by omega)]
      exact hres
  | succ d ih =>
    intro k m hm hk ha
    obtain ⟨k, rfl⟩ : ∃ q, k = q + 1 := ⟨k - 1, by omega⟩
    obtain ⟨b, hb, hdb⟩ := tw_full (p := lettB) (l := t.data.toList) (m := m) (by show m < lead t; omega)
    simp only [spec_l1Token.l1]
    rw [if_pos (by omega), if_pos (by omega), bt_at s (a + m) b ((hat m).trans hb), letter_eq, Option.bind_some, show lettI (b.toNat : Int) = true from hdb, if_pos rfl, wrap_id (x := ((a + m : Nat) : Int) + 1) (by omega) (by omega)]
    have e2 : ((a + m : Nat) : Int) + 1 = ((a + (m + 1) : Nat) : Int) := by omega
    rw [e2]
    exact ih k (m + 1) (by omega) (by omega) ha
theorem sign_loop (s : ByteArray) (a : Nat) (hs : s.size ≤ 100000) (l : List ByteArray) (hl : l.length ≤ 1000) (hx : ∀ x ∈ l, x.size ≤ 100) (ha : a ≤ s.size) : ∀ (d k i : Nat) (best : ByteArray), i + d = l.length → d < k →
    spec_l1Sign.l0 k s (a : Int) best l (l.length : Int) (i : Int) = some (bestS (s.extract a s.size) (l.drop i) best) := by
  obtain ⟨t, ht⟩ : ∃ t, t = s.extract a s.size := ⟨_, rfl⟩
  have hts : t.size = s.size - a := by rw [ht, ByteArray.size_extract]; omega
  have htd : t.data.toList = s.data.toList.drop a := by rw [ht, rest_data]
  rw [← ht]
  intro d
  induction d with
  | zero =>
    intro k i best hi hk
    obtain ⟨k, rfl⟩ : ∃ q, k = q + 1 := ⟨k - 1, by omega⟩
    simp only [spec_l1Sign.l0]
    rw [if_neg (by omega), List.drop_of_length_le (by omega), bestS_nil]
  | succ d ih =>
    intro k i best hi hk
    obtain ⟨k, rfl⟩ : ∃ q, k = q + 1 := ⟨k - 1, by omega⟩
    have hlt : i < l.length := by omega
    obtain ⟨x, hxe⟩ : ∃ x, x = l[i] := ⟨_, rfl⟩
    have hrd : rdOf ByteArray.empty l (i : Int) = x := by rw [hxe]; simp [rdOf, List.getD_eq_getElem?_getD, List.getElem?_eq_getElem hlt]
    have hxs := hx x (by rw [hxe]; exact List.getElem_mem _)
    have hxl : x.size = x.data.toList.length := size_len x
    have e2 : wrap64 ((i : Int) + 1) = ((i + 1 : Nat) : Int) := by rw [wrap_id (by omega) (by omega)]; omega
    simp only [spec_l1Sign.l0]
    rw [if_pos (Int.ofNat_lt.2 hlt), if_pos (Int.natCast_nonneg i), if_pos (Int.ofNat_lt.2 hlt), hrd, wrap_id (x := (a : Int) + (x.size : Int)) (by omega) (by omega), e2, List.drop_eq_getElem_cons hlt, ← hxe, bestS_cons]
    have go : ∀ b, spec_l1Sign.l0 k s (a : Int) b l (l.length : Int) ((i + 1 : Nat) : Int) = some (bestS t (l.drop (i + 1)) b) := fun b => ih k (i + 1) b (by omega) (by omega)
    by_cases h1 : best.size < x.size
    · rw [if_pos (by omega)]
      by_cases h2 : a + x.size ≤ s.size
      · rw [if_pos (by omega), if_pos (by omega), if_pos (by omega)]
        have hex : (s.extract (a : Int).toNat ((a : Int) + (x.size : Int)).toNat).toList = t.data.toList.take x.size := by
          rw [ByteArray.toList_eq, Lib.extract_data, htd, Int.toNat_natCast, show ((a : Int) + (x.size : Int)).toNat - a = x.size by omega]
        have hp : Lib.hasPrefix t.data.toList x.data.toList = true ↔ t.data.toList.take x.size = x.toList := by
          unfold Lib.hasPrefix
          rw [List.isPrefixOf_iff_prefix, List.prefix_iff_eq_take, ← hxl, ByteArray.toList_eq]
          exact ⟨fun h => h.symm, fun h => h.symm⟩
        rw [hex]
        by_cases h3 : t.data.toList.take x.size = x.toList
        · rw [if_pos h3, if_pos ⟨h1, hp.2 h3⟩]; exact go x
        · rw [if_neg h3, if_neg (fun h => h3 (hp.1 h.2))]; exact go best
      · rw [if_neg (by omega), if_neg ?_]
        · exact go best
        · rintro ⟨_, h⟩
          unfold Lib.hasPrefix at h
          rw [List.isPrefixOf_iff_prefix] at h
          have := h.length_le
          rw [← hxl, ← size_len, hts] at this
          omega
    · rw [if_neg (by omega), if_neg (fun h => h1 h.1)]; exact go best
theorem bestS_small (s : ByteArray) : ∀ (l : List ByteArray) (b : ByteArray), (∀ x ∈ l, x.size ≤ 100) → b.size ≤ 100 → (bestS s l b).size ≤ 100 := by
  intro l
  induction l with
  | nil => intro b _ hb; exact hb
  | cons x r ih =>
    intro b h hb
    rw [bestS_cons]
    split
    · exact ih x (fun y hy => h y (by simp [hy])) (h x (by simp))
    · exact ih b (fun y hy => h y (by simp [hy])) hb
theorem lead_pos (t : ByteArray) (b : UInt8) (hb : t.data.toList[0]? = some b) : (lettB b = true → 0 < lead t) ∧ (lettB b = false → lead t = 0) := by
  unfold lead
  cases h : t.data.toList with
  | nil => rw [h] at hb; cases hb
  | cons c r =>
    rw [h] at hb
    obtain rfl : c = b := by simpa using hb
    constructor
    · intro hc; rw [List.takeWhile_cons_of_pos hc]; simp
    · intro hc; rw [List.takeWhile_cons_of_neg (by rw [hc]; decide)]; rfl
theorem leadD_pos (t : ByteArray) (b : UInt8) (hb : t.data.toList[0]? = some b) : (digB b = true → 0 < leadD t) ∧ (digB b = false → leadD t = 0) := by
  unfold leadD
  cases h : t.data.toList with
  | nil => rw [h] at hb; cases hb
  | cons c r =>
    rw [h] at hb
    obtain rfl : c = b := by simpa using hb
    constructor
    · intro hc; rw [List.takeWhile_cons_of_pos hc]; simp
    · intro hc; rw [List.takeWhile_cons_of_neg (by rw [hc]; decide)]; rfl
theorem signs_eq : spec_l1Signs.f = some signs := by
  unfold spec_l1Signs.f signs impl_SignsOf.f
  simp only [Option.getD_some]
/-- A token, by both. -/
theorem token_eq (s : ByteArray) (a : Nat) (hs : s.size ≤ 100000) (ha : a < s.size) (k : Nat) (hk : 2 * s.size + 100 ≤ k) : spec_l1Token.f k s (a : Int) = some (tokAt s a) := by
  obtain ⟨t, ht⟩ : ∃ t, t = s.extract a s.size := ⟨_, rfl⟩
  have hts : t.size = s.size - a := by rw [ht, ByteArray.size_extract]; omega
  have htl : t.size = t.data.toList.length := size_len t
  obtain ⟨b, hb⟩ : ∃ b, t.data.toList[0]? = some b := ⟨t.data.toList[0]'(by omega), by simp⟩
  have hsb : s.data.toList[a]? = some b := by have := rest_at s a 0; rw [← ht, Nat.add_zero] at this; rw [this]; exact hb
  have h0 : bt s (a : Int) = bt t 0 := by
    rw [bt_at s a b hsb]
    have := bt_at t 0 b hb
    rw [Int.natCast_zero] at this
    rw [this]
  have hdl := leadD_le t
  have hll := lead_le t
  unfold spec_l1Token.f tokAt
  rw [if_pos (by omega), if_pos (by omega), bt_at s a b hsb, digit_eq, Option.bind_some, ← ht]
  simp only
  unfold tokOf
  by_cases h1 : digB b = true
  · have hp := (leadD_pos t b hb).1 h1
    rw [show digI (b.toNat : Int) = true from h1, if_pos rfl, if_pos hp]
    have := digit_loop s a hs (by rw [← ht]; exact h0) (leadD t) k 0 0 (by rw [← ht]; omega) (by omega) (by omega) (fun h => by omega) (by simp [Lib.decFrom]) ha
    rw [← ht, Nat.add_zero, Int.natCast_zero] at this
    rw [this]
    split
    · rw [if_pos rfl]
    · rw [if_neg (by simp only; omega)]
  · have h1' : digB b = false := by simpa using h1
    have hz := (leadD_pos t b hb).2 h1'
    rw [show digI (b.toNat : Int) = false from h1', if_neg (by decide), letter_eq, Option.bind_some, if_neg (show ¬ 0 < leadD t by omega)]
    by_cases h2 : lettB b = true
    · have hp := (lead_pos t b hb).1 h2
      rw [show lettI (b.toNat : Int) = true from h2, if_pos rfl, if_pos hp]
      have := letter_loop s a hs (lead t) k 0 (by rw [← ht]; omega) (by omega) ha
      rw [← ht, Nat.add_zero] at this
      rw [this]
      split
      · rw [if_pos rfl]
      · rw [if_neg (by simp only; omega)]
    · have h2' : lettB b = false := by simpa using h2
      have hz2 := (lead_pos t b hb).2 h2'
      rw [show lettI (b.toNat : Int) = false from h2', if_neg (by decide), if_neg (show ¬ 0 < lead t by omega)]
      have hsm : ∀ x ∈ signs, x.size ≤ 100 := by decide +kernel
      have hs19 : signs.length = 19 := rfl
      have := sign_loop s a hs signs (by omega) hsm (by omega) 19 k 0 ⟨#[]⟩ (by omega) (by omega)
      rw [← ht, List.drop_zero, Int.natCast_zero] at this
      unfold spec_l1Sign.f
      rw [signs_eq, Option.bind_some, this, Option.bind_some]
      have hbs := bestS_small t signs ⟨#[]⟩ hsm (by decide)
      obtain ⟨r, hr⟩ : ∃ r, r = bestS t signs ⟨#[]⟩ := ⟨_, rfl⟩
      rw [← hr] at hbs ⊢
      by_cases he : r.toList = ([] : List UInt8)
      · have : r.size = 0 := by rw [size_len, ← ByteArray.toList_eq, he]; rfl
        rw [if_pos he, if_pos (by simp only; omega)]
      · have : r.size ≠ 0 := fun h => he (by rw [ByteArray.toList_eq]; exact List.length_eq_zero_iff.1 (by rw [← size_len]; exact h))
        rw [if_neg he, if_neg (by simp only; omega), wrap_id (by omega) (by omega)]
end Go.Proofs.YtkmobaffmlcaiaaDoor.PAll
