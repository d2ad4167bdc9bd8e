/- GoodToken, plain: names' letters, and the signs found either way. -/
import Derived.Test.YtkmobaffmlcaiaaDoorHwordA
import Derived.Test.YtkmobaffmlcaiaaDoorPAllx2
import Derived.Test.YtkmobaffmlcaiaaDoorPAllx3
import Derived.Test.YtkmobaffmlcaiaaDoorPAllx5
import Derived.Test.YtkmobaffmlcaiaaDoorPAllx6
import Derived.Test.YtkmobaffmlcaiaaDoorPAllx7
import Derived.Test.YtkmobaffmlcaiaaDoorPAllx8
namespace Go.Proofs.YtkmobaffmlcaiaaDoor.PAll
open Go.RowKit Go.Proofs.YtkmobaffmlcaiaaDoorW.PrintWords Go.Proofs.YtkmobaffmlcaiaaDoorW.PrintLast Go.Proofs.YtkmobaffmlcaiaaDoorW.PrintMore
set_option linter.unusedVariables false
set_option linter.unusedSimpArgs false

theorem wrap_id {x : Int} (h0 : -9223372036854775808 ≤ x) (h1 : x < 9223372036854775808) : wrap64 x = x := by unfold wrap64; omega
theorem l1In_eq (n lo hi : Int) : spec_l1In.f n lo hi = some (decide (lo ≤ n ∧ n ≤ hi)) := by
  unfold spec_l1In.f
  by_cases h : lo ≤ n <;> simp [h]
theorem within_eq (n lo hi : Int) : impl_within.f n lo hi = some (decide (lo ≤ n ∧ n ≤ hi)) := by
  unfold impl_within.f
  by_cases h : lo ≤ n <;> simp [h]

theorem letter_eq (c : Int) : spec_l1Letter.f c = some (lettI c) := by
  unfold spec_l1Letter.f lettI
  by_cases h : 97 ≤ c <;> simp [h]

theorem bt_nat (s : ByteArray) (i : Nat) (h : i < s.size) : bt s (i : Int) = (s[i].toNat : Int) := by simp [bt, h]

theorem lead_all (s : ByteArray) (h : ∀ x ∈ s.data.toList, lettB x = true) : lead s = s.size := by
  refine lead_of s s.size (Nat.le_refl _) (fun x hx => h x (List.mem_of_mem_take hx)) (fun hh => absurd hh (Nat.lt_irrefl _))

theorem lead_not (s : ByteArray) (i : Nat) (hi : i < s.size) (hb : lettB s[i] = false) : lead s ≠ s.size := by
  intro h
  unfold lead at h
  have hm : ∀ x ∈ s.data.toList.takeWhile lettB, lettB x = true := fun x hx => by
    have := List.all_takeWhile (l := s.data.toList) (p := lettB)
    rw [List.all_eq_true] at this
    exact this x hx
  have hl : (s.data.toList.takeWhile lettB).length = s.data.toList.length := by rw [h]; simp
  have he : s.data.toList.takeWhile lettB = s.data.toList := (List.takeWhile_prefix lettB).eq_of_length hl
  rw [he] at hm
  have hx : s[i] ∈ s.data.toList := by
    have : s.data.toList[i]'(by simpa using hi) = s[i] := rfl
    rw [← this]
    exact List.getElem_mem _
  rw [hm _ hx] at hb
  cases hb

theorem specName_loop (s : ByteArray) (hs : s.size ≤ 9223372036854775800) (a0 a1 a3 : Int) : ∀ (d k i : Nat), i + d = s.size → d < k → (∀ x ∈ s.data.toList.take i, lettB x = true) →
    spec_GoodToken.l0 k (i : Int) a0 a1 s a3 = some (decide (a1 = 0) && nameB s) := by
  intro d
  induction d with
  | zero =>
    intro k i hi hk hp
    obtain ⟨k, rfl⟩ : ∃ m, k = m + 1 := ⟨k - 1, by omega⟩
    have hall : ∀ x ∈ s.data.toList, lettB x = true := fun x hx => hp x (by rw [List.take_of_length_le (by simp; omega)]; exact hx)
    have hl := lead_all s hall
    simp only [spec_GoodToken.l0]
    rw [if_neg (by omega)]
    by_cases h1 : a1 = 0
    · rw [if_pos h1, l1In_eq]
      simp only [Option.bind_some, nameB, h1, hl, decide_true, Bool.true_and, Bool.and_true]
      congr 1
      rw [← Bool.decide_and, decide_eq_decide]
      omega
    · rw [if_neg h1, decide_eq_false h1]; rfl
  | succ d ih =>
    intro k i hi hk hp
    obtain ⟨k, rfl⟩ : ∃ m, k = m + 1 := ⟨k - 1, by omega⟩
    have hlt : i < s.size := by omega
    simp only [spec_GoodToken.l0]
    rw [if_pos (by omega), if_pos (by omega), bt_nat s i hlt, letter_eq, wrap_id (by omega) (by omega)]
    simp only [Option.bind_some]
    cases hb : lettI (s[i].toNat : Int) with
    | true =>
      rw [if_pos rfl]
      have := ih k (i + 1) (by omega) (by omega) (fun x hx => by
        rw [List.take_succ_eq_append_getElem (by simpa using hlt)] at hx
        simp at hx
        rcases hx with hx | rfl
        · exact hp x hx
        · exact hb)
      simpa using this
    | false =>
      rw [if_neg (by simp)]
      have := lead_not s i hlt hb
      simp [nameB, this]

theorem signLoop (s : ByteArray) (l : List ByteArray) (hs : s.size ≤ 4611686018427387904) (hl : l.length ≤ 1000) (hx : ∀ x ∈ l, x.size ≤ 100) : ∀ (d k i : Nat) (best : ByteArray), i + d = l.length → d < k →
    ∃ r, spec_l1Sign.l0 k s 0 best l (l.length : Int) (i : Int) = some r ∧ (r = best ∨ r ∈ l) := by
  intro d
  induction d with
  | zero =>
    intro k i best hi hk
    obtain ⟨k, rfl⟩ : ∃ m, k = m + 1 := ⟨k - 1, by omega⟩
    simp only [spec_l1Sign.l0]
    rw [if_neg (by omega)]
    exact ⟨best, rfl, .inl rfl⟩
  | succ d ih =>
    intro k i best hi hk
    obtain ⟨k, rfl⟩ : ∃ m, k = m + 1 := ⟨k - 1, by omega⟩
    have hlt : i < l.length := by omega
    have hr : rdOf ByteArray.empty l (i : Int) = l[i] := by simp [rdOf, List.getD_eq_getElem?_getD, List.getElem?_eq_getElem hlt]
    have hm : l[i] ∈ l := List.getElem_mem _
    have hsz := hx _ hm
    simp only [spec_l1Sign.l0]
    rw [if_pos (by omega), if_pos (by omega), if_pos (by omega), hr, wrap_id (x := (i : Int) + 1) (by omega) (by omega), wrap_id (x := 0 + (l[i].size : Int)) (by omega) (by omega)]
    have go : ∀ b, ∃ r, spec_l1Sign.l0 k s 0 b l (l.length : Int) ((i : Int) + 1) = some r ∧ (r = b ∨ r ∈ l) := fun b => by
      have := ih k (i + 1) b (by omega) (by omega)
      simpa using this
    by_cases h1 : (l[i].size : Int) > (best.size : Int)
    · rw [if_pos h1]
      by_cases h2 : 0 + (l[i].size : Int) ≤ (s.size : Int)
      · rw [if_pos h2, if_pos (by omega), if_pos (by omega)]
        split
        · obtain ⟨r, h, hr2⟩ := go l[i]
          exact ⟨r, h, .inr (by rcases hr2 with rfl | h2; exact hm; exact h2)⟩
        · exact go best
      · rw [if_neg h2]; exact go best
    · rw [if_neg h1]; exact go best

theorem indexLoop (l : List ByteArray) (a : ByteArray) (hl : l.length ≤ 1000) : ∀ (d k i : Nat), i + d = l.length → d < k →
    ∃ n, slices_Index_string_string.l0 k l a (l.length : Int) (i : Int) = some n ∧ (0 ≤ n ↔ ∃ x ∈ l.drop i, a.toList = x.toList) := by
  intro d
  induction d with
  | zero =>
    intro k i hi hk
    obtain ⟨k, rfl⟩ : ∃ m, k = m + 1 := ⟨k - 1, by omega⟩
    simp only [slices_Index_string_string.l0]
    rw [if_neg (by omega), List.drop_of_length_le (by omega)]
    exact ⟨-1, rfl, by simp⟩
  | succ d ih =>
    intro k i hi hk
    obtain ⟨k, rfl⟩ : ∃ m, k = m + 1 := ⟨k - 1, by omega⟩
    have hlt : i < l.length := by omega
    have hr : rdOf ByteArray.empty l (i : Int) = l[i] := by simp [rdOf, List.getD_eq_getElem?_getD, List.getElem?_eq_getElem hlt]
    simp only [slices_Index_string_string.l0]
    rw [if_pos (by omega), if_pos (by omega), if_pos (by omega), hr, wrap_id (by omega) (by omega), List.drop_eq_getElem_cons hlt]
    by_cases h : a.toList = l[i].toList
    · rw [if_pos h]
      exact ⟨i, rfl, ⟨fun _ => ⟨l[i], List.mem_cons_self, h⟩, fun _ => by omega⟩⟩
    · rw [if_neg h]
      obtain ⟨n, h1, h2⟩ := ih k (i + 1) (by omega) (by omega)
      refine ⟨n, by simpa using h1, ?_⟩
      rw [h2]
      constructor
      · rintro ⟨x, hx, e⟩; exact ⟨x, List.mem_cons_of_mem _ hx, e⟩
      · rintro ⟨x, hx, e⟩
        rcases List.mem_cons.1 hx with rfl | hx
        · exact absurd e h
        · exact ⟨x, hx, e⟩

theorem bytes_ext {a b : ByteArray} (h : a.toList = b.toList) : a = b := by
  rw [ByteArray.toList_eq, ByteArray.toList_eq] at h
  cases a with | mk a => cases b with | mk b => cases a with | mk a => cases b with | mk b => simp at h; rw [h]

def theSigns : List ByteArray := [(⟨#[43]⟩ : ByteArray), (⟨#[45]⟩ : ByteArray), (⟨#[42]⟩ : ByteArray), (⟨#[47]⟩ : ByteArray), (⟨#[37]⟩ : ByteArray), (⟨#[60]⟩ : ByteArray), (⟨#[60, 61]⟩ : ByteArray), (⟨#[61, 61]⟩ : ByteArray), (⟨#[33, 61]⟩ : ByteArray), (⟨#[61]⟩ : ByteArray), (⟨#[38, 38]⟩ : ByteArray), (⟨#[124, 124]⟩ : ByteArray), (⟨#[33]⟩ : ByteArray), (⟨#[40]⟩ : ByteArray), (⟨#[41]⟩ : ByteArray), (⟨#[44]⟩ : ByteArray), (⟨#[59]⟩ : ByteArray), (⟨#[45, 62]⟩ : ByteArray), (⟨#[60, 60]⟩ : ByteArray)]

theorem signs_run : ∀ x ∈ theSigns, spec_l1Sign.f 30 x 0 = some x := by decide +kernel
theorem signs_ne : ∀ x ∈ theSigns, ¬ x.toList = ([] : List UInt8) := by decide +kernel
theorem signs_small : ∀ x ∈ theSigns, x.size ≤ 100 := by decide +kernel

theorem sign_either (s : ByteArray) (hs : s.size ≤ 4611686018427387904) (hne : ¬ s.toList = ([] : List UInt8)) :
    ∃ b : Bool, (spec_l1Sign.f 30 s 0).bind (fun t => some (t.toList == s.toList)) = some b ∧ slices_Contains_string_string.f 30 theSigns s = some b := by
  obtain ⟨n, h1, h2⟩ := indexLoop theSigns s (by decide) 19 30 0 (by decide) (by omega)
  have hI : slices_Contains_string_string.f 30 theSigns s = some (decide (n ≥ 0)) := by
    unfold slices_Contains_string_string.f slices_Index_string_string.f
    simp only [Int.cast_ofNat_Int] at h1
    rw [h1]
    rfl
  by_cases h : ∃ x ∈ theSigns, s.toList = x.toList
  · obtain ⟨x, hx, e⟩ := h
    obtain rfl := bytes_ext e
    refine ⟨true, ?_, ?_⟩
    · rw [signs_run _ hx]; simp
    · rw [hI]; simp only [Option.some.injEq, decide_eq_true_eq]; exact h2.2 ⟨s, hx, rfl⟩
  · refine ⟨false, ?_, ?_⟩
    · obtain ⟨r, hr, ho⟩ := signLoop s theSigns hs (by decide) signs_small 19 30 0 (⟨#[]⟩ : ByteArray) (by decide) (by omega)
      have e : spec_l1Sign.f 30 s 0 = some r := by
        unfold spec_l1Sign.f
        simp only [spec_l1Signs.f, Option.bind_some]
        exact hr
      rw [e]
      simp only [Option.bind_some, Option.some.injEq, beq_eq_false_iff_ne, ne_eq]
      intro he
      rcases ho with rfl | hm
      · exact hne (by rw [← he, ByteArray.toList_eq])
      · exact h ⟨r, hm, he.symm⟩
    · rw [hI]; simp only [Option.some.injEq, decide_eq_false_iff_not]; exact fun z => h (h2.1 z)
theorem GoodToken_both (a0 a1 : Int) (s : ByteArray) (a3 : Int) (hs : s.size ≤ 4611686018427387904) : ∃ k b, spec_GoodToken.f k a0 a1 s a3 = some b ∧ impl_GoodToken.f k a0 a1 s a3 = some b := by
  by_cases h3 : a0 = 3
  · refine ⟨30, ?_⟩
    unfold spec_GoodToken.f impl_GoodToken.f
    simp only [l1In_eq, within_eq, Option.bind_some]
    by_cases hat : decide (0 ≤ a3 ∧ a3 ≤ 300) = true
    · have e1 : ¬ a0 = 1 := by omega
      have e2 : ¬ a0 = 2 := by omega
      simp only [if_pos hat, if_neg e1, if_neg e2, if_pos h3]
      by_cases h1 : a1 = 0
      · rw [if_pos h1, if_pos h1]
        by_cases hne : s.toList = ([] : List UInt8)
        · rw [if_pos hne]
          refine ⟨false, rfl, ?_⟩
          obtain ⟨n, e1, e2⟩ := indexLoop theSigns s (by decide) 19 30 0 (by decide) (by omega)
          simp only [impl_SignsOf.f, Option.bind_some]
          unfold slices_Contains_string_string.f slices_Index_string_string.f
          simp only [Int.cast_ofNat_Int] at e1
          have e3 : ¬ 0 ≤ n := fun z => by
            obtain ⟨x, hx, e⟩ := e2.1 z
            exact signs_ne x hx (by rw [← e]; exact hne)
          show ((slices_Index_string_string.l0 30 theSigns s (theSigns.length : Int) 0).bind _).bind _ = _
          rw [e1]
          simp only [Option.bind_some, Option.some.injEq, decide_eq_false_iff_not]
          exact e3
        · rw [if_neg hne]
          obtain ⟨b, e1, e2⟩ := sign_either s hs hne
          refine ⟨b, e1, ?_⟩
          simp only [impl_SignsOf.f, Option.bind_some]
          show (slices_Contains_string_string.f 30 theSigns s).bind _ = _
          rw [e2]
          rfl
      · rw [if_neg h1, if_neg h1]; exact ⟨false, rfl, rfl⟩
    · rw [if_neg hat, if_neg hat]; exact ⟨false, rfl, rfl⟩
  · refine ⟨s.size + 1, ?_⟩
    unfold spec_GoodToken.f impl_GoodToken.f
    simp only [l1In_eq, within_eq, Option.bind_some]
    by_cases hat : decide (0 ≤ a3 ∧ a3 ≤ 300) = true
    · rw [if_pos hat, if_pos hat]
      by_cases h0 : a0 = 1
      · rw [if_pos h0, if_pos h0]
        cases hd : decide (0 ≤ a1 ∧ a1 ≤ 999999999) with
        | true => exact ⟨_, rfl, rfl⟩
        | false => exact ⟨_, rfl, rfl⟩
      · rw [if_neg h0, if_neg h0]
        by_cases h2 : a0 = 2
        · rw [if_pos h2, if_pos h2]
          have := specName_loop s (by omega) a0 a1 a3 s.size (s.size + 1) 0 (by omega) (by omega) (by simp)
          simp only [Int.cast_ofNat_Int] at this
          rw [this]
          by_cases h1 : a1 = 0
          · rw [if_pos h1]
            unfold impl_nameOk.f
            rw [if_pos (by omega)]
            exact ⟨nameB s, by simp [h1], rfl⟩
          · rw [if_neg h1]
            exact ⟨false, by simp [h1], rfl⟩
        · rw [if_neg h2, if_neg h2, if_neg h3, if_neg h3]
          exact ⟨false, rfl, rfl⟩
    · rw [if_neg hat, if_neg hat]; exact ⟨false, rfl, rfl⟩

end Go.Proofs.YtkmobaffmlcaiaaDoor.PAll
