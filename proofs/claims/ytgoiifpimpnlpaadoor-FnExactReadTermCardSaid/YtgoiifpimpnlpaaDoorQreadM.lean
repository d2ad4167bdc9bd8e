/- Numerals: what the reference's l3Int reads. -/
import Derived.Test.YtgoiifpimpnlpaaDoorQtext
import Derived.Test.YtgoiifpimpnlpaaDoorHreadM
import Derived.Test.YtgoiifpimpnlpaaDoorPAllx3
import Derived.Lib.AtoiTie
import Derived.Lib.IndexBytes
import Derived.Test.YtgoiifpimpnlpaaDoorPAllx7
import Derived.Test.YtgoiifpimpnlpaaDoorQtermB
namespace Go.Proofs.YtgoiifpimpnlpaaDoor.PAll
open Go.RowKit Go.Proofs.YtgoiifpimpnlpaaDoorW.PrintWords Go.Proofs.YtgoiifpimpnlpaaDoorW.PrintLast Go.Proofs.YtgoiifpimpnlpaaDoorW.PrintMore
set_option linter.unusedVariables false
set_option linter.unusedSimpArgs false

theorem decFrom_snoc : ∀ (l : List UInt8) (acc : Nat) (b : UInt8), Lib.decFrom acc (l ++ [b]) = (Lib.decFrom acc l).bind fun n => (Lib.digitVal b).map fun d => n * 10 + d := by
  intro l
  induction l with
  | nil => intro acc b; simp only [List.nil_append, Lib.decFrom, Option.bind_some]; cases Lib.digitVal b <;> rfl
  | cons c l ih =>
    intro acc b
    simp only [List.cons_append, Lib.decFrom]
    cases Lib.digitVal c with
    | none => rfl
    | some d => exact ih _ b
theorem digit_val (u : Nat) (h : u < 10) : Lib.digitVal (UInt8.ofNat (48 + u)) = some u := by
  have : (UInt8.ofNat (48 + u)).toNat = 48 + u := by simp; omega
  unfold Lib.digitVal
  rw [this, if_pos (by omega)]
  congr 1; omega
theorem digit_back {b : UInt8} {d : Nat} (h : Lib.digitVal b = some d) : UInt8.ofNat (48 + d) = b ∧ d < 10 := by
  obtain ⟨h1, h2, h3⟩ := Lib.digitVal_eq h
  refine ⟨?_, by omega⟩
  apply UInt8.toNat_inj.1
  rw [show 48 + d = b.toNat by omega]
  simp
theorem dec0 : Lib.decDigits 0 = [48] := by rw [Lib.decDigits_one (by omega)]; rfl
theorem decDigits_big {u : Nat} (h : ¬ u < 10) : Lib.decDigits u = Lib.decDigits (u / 10) ++ [UInt8.ofNat (48 + u % 10)] := by rw [Lib.decDigits, dif_neg h]
theorem dec_value : ∀ (n u : Nat), u ≤ n → Lib.decFrom 0 (Lib.decDigits u) = some u := by
  intro n
  induction n with
  | zero => intro u h; obtain rfl : u = 0 := by omega
            rw [dec0]; rfl
  | succ n ih =>
    intro u h
    by_cases h1 : u < 10
    · rw [Lib.decDigits_one h1]
      simp only [Lib.decFrom, digit_val u h1, Nat.zero_mul, Nat.zero_add]
    · rw [decDigits_big h1, decFrom_snoc, ih (u / 10) (by omega), Option.bind_some, digit_val _ (by omega)]
      simp only [Option.map_some]
      congr 1; omega
theorem dec_head : ∀ (n u : Nat), u ≤ n → 1 ≤ u → ∃ b r, Lib.decDigits u = b :: r ∧ 49 ≤ b.toNat ∧ b.toNat ≤ 57 := by
  intro n
  induction n with
  | zero => intro u h h1; omega
  | succ n ih =>
    intro u h h1
    by_cases h2 : u < 10
    · rw [Lib.decDigits_one h2]
      have : (UInt8.ofNat (48 + u)).toNat = 48 + u := by simp; omega
      exact ⟨_, _, rfl, by omega, by omega⟩
    · obtain ⟨b, r, e, h3, h4⟩ := ih (u / 10) (by omega) (by omega)
      exact ⟨b, r ++ [UInt8.ofNat (48 + u % 10)], by rw [decDigits_big h2, e]; rfl, h3, h4⟩
/-- A numeral without a leading zero is the numeral of its value. -/
theorem dec_back : ∀ (m : Nat) (l : List UInt8), l.length = m → ∀ n, Lib.decFrom 0 l = some n → l ≠ [] → (l.head? = some 48 → l.length = 1) → Lib.decDigits n = l := by
  intro m
  induction m with
  | zero => intro l hl n _ hne; exact absurd (List.length_eq_zero_iff.1 hl) hne
  | succ m ih =>
    intro l hl n hn hne hh
    obtain ⟨p, b, rfl⟩ : ∃ p b, l = p ++ [b] := ⟨l.dropLast, l.getLast hne, (List.dropLast_concat_getLast hne).symm⟩
    rw [decFrom_snoc] at hn
    obtain ⟨q, hq, hn⟩ := Option.bind_eq_some_iff.1 hn
    obtain ⟨d, hd, rfl⟩ := Option.map_eq_some_iff.1 hn
    obtain ⟨hb, hd10⟩ := digit_back hd
    by_cases hp : p = []
    · subst hp
      simp only [Lib.decFrom, Option.some.injEq] at hq
      subst hq
      rw [Nat.zero_mul, Nat.zero_add, Lib.decDigits_one hd10, hb]; rfl
    · have hpl : 1 ≤ p.length := by cases p with | nil => exact absurd rfl hp | cons _ _ => simp
      have hhd : p.head? ≠ some 48 := by
        intro h
        have : (p ++ [b]).head? = some 48 := by cases p with | nil => exact absurd rfl hp | cons _ _ => simpa using h
        have := hh this
        rw [List.length_append, List.length_singleton] at this
        omega
      have e := ih p (by simpa using hl) q hq hp (fun h => absurd h hhd)
      have hq1 : 1 ≤ q := by
        rcases Nat.eq_zero_or_pos q with h | h
        · subst h
          rw [← e, dec0] at hhd
          exact absurd rfl hhd
        · exact h
      rw [decDigits_big (by omega), show (q * 10 + d) / 10 = q by omega, show (q * 10 + d) % 10 = d by omega, e, hb]

/-- What stands behind the sign. -/
def magL (l : List UInt8) (neg : Bool) : Option Nat := if 1 ≤ l.length ∧ l.length ≤ 7 ∧ ¬ (l.head? = some 48 ∧ (1 < l.length ∨ neg = true)) then Lib.decFrom 0 l else none
/-- The numeral read. -/
def sintL (l : List UInt8) : Option Int := if 1 < l.length ∧ l.head? = some 45 then Option.map (fun (m : Nat) => -(m : Int)) (magL l.tail true) else Option.map (fun (m : Nat) => (m : Int)) (magL l false)
theorem mag_back {l : List UInt8} {neg : Bool} {m : Nat} (h : magL l neg = some m) : Lib.decDigits m = l ∧ m < 10000000 ∧ (neg = true → 1 ≤ m) := by
  unfold magL at h
  split at h
  · rename_i hc
    obtain ⟨h1, h2, h3⟩ := hc
    have hne : l ≠ [] := by rintro rfl; simp at h1
    have e := dec_back l.length l rfl m h hne (fun hh => by
      rcases Nat.lt_or_ge 1 l.length with h | h
      · exact absurd ⟨hh, .inl h⟩ h3
      · omega)
    refine ⟨e, ?_, fun hn => ?_⟩
    · have := Lib.decFrom_lt l 0 m h
      have : 10 ^ l.length ≤ 10 ^ 7 := Nat.pow_le_pow_right (by omega) h2
      omega
    · rcases Nat.eq_zero_or_pos m with h | h
      · subst h
        exact absurd ⟨by rw [← e, dec0]; rfl, .inr hn⟩ h3
      · exact h
  · cases h
theorem sint_back {l : List UInt8} {n : Int} (h : sintL l = some n) : l = Lib.itoa n ∧ -10000000 < n ∧ n < 10000000 := by
  unfold sintL at h
  split at h
  · rename_i hc
    obtain ⟨m, hm, rfl⟩ := Option.map_eq_some_iff.1 h
    obtain ⟨e, h1, h2⟩ := mag_back hm
    refine ⟨?_, by omega, by omega⟩
    cases l with
    | nil => simp at hc
    | cons b r =>
      have : b = 45 := by simpa using hc.2
      subst this
      rw [Lib.itoa, if_pos (by have := h2 rfl; omega), show (-(m : Int)).natAbs = m by omega, e]; rfl
  · obtain ⟨m, hm, rfl⟩ := Option.map_eq_some_iff.1 h
    obtain ⟨e, h1, h2⟩ := mag_back hm
    exact ⟨by rw [Lib.itoa, if_neg (by omega), show (m : Int).toNat = m by omega, e], by omega, by omega⟩
theorem mag_dec (u : Nat) (hu : u < 10000000) (neg : Bool) (hn : neg = true → 1 ≤ u) : magL (Lib.decDigits u) neg = some u := by
  have hl := decDigits_len 7 u hu (by omega)
  have hv := dec_value u u (Nat.le_refl _)
  unfold magL
  rcases Nat.eq_zero_or_pos u with h | h
  · subst h
    cases neg with
    | true => exact absurd (hn rfl) (by omega)
    | false => rw [dec0]; rfl
  · obtain ⟨b, r, e, h3, h4⟩ := dec_head u u (Nat.le_refl _) h
    rw [if_pos ?_]
    · exact hv
    · refine ⟨by rw [e]; simp, hl, ?_⟩
      rintro ⟨hh, _⟩
      rw [e] at hh
      simp at hh
      subst hh
      simp at h3
theorem itoa_sint (n : Int) (h0 : -10000000 < n) (h1 : n < 10000000) : sintL (Lib.itoa n) = some n := by
  unfold sintL Lib.itoa
  by_cases hn : n < 0
  · rw [if_pos hn]
    obtain ⟨b, r, e, h3, h4⟩ := dec_head n.natAbs n.natAbs (Nat.le_refl _) (by omega)
    rw [if_pos (by rw [e]; simp), List.tail_cons, mag_dec _ (by omega) _ (fun _ => by omega)]
    simp only [Option.map_some]
    congr 1; omega
  · rw [if_neg hn]
    rw [if_neg ?_, mag_dec _ (by omega) _ (fun h => by cases h)]
    · simp only [Option.map_some]
      congr 1; omega
    · rintro ⟨_, hh⟩
      rcases Nat.eq_zero_or_pos n.toNat with h | h
      · rw [h, dec0] at hh; revert hh; decide
      · obtain ⟨b, r, e, h3, h4⟩ := dec_head n.toNat n.toNat (Nat.le_refl _) h
        rw [e] at hh
        simp at hh
        subst hh
        simp at h3
/-- What Atoi reads of a numeral. -/
theorem numV_itoa (n : Int) (h0 : -10000000 < n) (h1 : n < 10000000) : numV (Lib.itoa n) = n := by
  have hl := Lib.itoa_length_le n (by omega) (by omega)
  have hl7 : ∀ u, u < 10000000 → (Lib.decDigits u).length ≤ 7 := fun u h => decDigits_len 7 u h (by omega)
  have hdn : ∀ u, Lib.decNat (Lib.decDigits u) = some u := by
    intro u
    unfold Lib.decNat
    have : (Lib.decDigits u).isEmpty = false := by
      have := Lib.nDigits_pos u
      rw [← Lib.decDigits_length u] at this
      cases hd : Lib.decDigits u with
      | nil => rw [hd] at this; simp at this
      | cons _ _ => rfl
    rw [this]
    exact dec_value u u (Nat.le_refl _)
  unfold numV
  by_cases hn : n < 0
  · rw [Lib.itoa, if_pos hn, Lib.atoiAll_minus, Lib.signed_short (by have := hl7 n.natAbs (by omega); omega), hdn]
    simp only [Option.map_some, Lib.NumEnd.ofOption]
    omega
  · rw [Lib.itoa, if_neg hn]
    have hd := hdn n.toNat
    cases hdd : Lib.decDigits n.toNat with
    | nil => rw [hdd] at hd; exact absurd hd (by simp [Lib.decNat])
    | cons b r =>
      have hb : 48 ≤ b.toNat := by
        rcases Nat.eq_zero_or_pos n.toNat with h | h
        · rw [h] at hdd
          have : [(48 : UInt8)] = b :: r := by rw [← dec0]; exact hdd
          simp at this
          rw [← this.1]; decide
        · obtain ⟨b', r', e, h3, h4⟩ := dec_head n.toNat n.toNat (Nat.le_refl _) h
          rw [hdd] at e
          obtain ⟨rfl, rfl⟩ := List.cons.inj e
          omega
      rw [Lib.atoiAll_plain b r (by omega) (by omega), ← hdd, Lib.signless_short (by have := hl7 n.toNat (by omega); omega), hdn]
      simp only [Option.map_some, Lib.NumEnd.ofOption]
      omega

end Go.Proofs.YtgoiifpimpnlpaaDoor.PAll

namespace Go.Proofs.YtgoiifpimpnlpaaDoor.PAll
open Go.RowKit Go.Proofs.YtgoiifpimpnlpaaDoorW.PrintWords Go.Proofs.YtgoiifpimpnlpaaDoorW.PrintLast Go.Proofs.YtgoiifpimpnlpaaDoorW.PrintMore
set_option linter.unusedVariables false
set_option linter.unusedSimpArgs false

theorem bt_at (s : ByteArray) (i : Nat) (b : UInt8) (h : s.data.toList[i]? = some b) : bt s (i : Int) = (b.toNat : Int) := by
  have hi : i < s.size := by
    rcases Nat.lt_or_ge i s.size with h1 | h1
    · exact h1
    · rw [List.getElem?_eq_none (by rw [Array.length_toList, ByteArray.size_data]; exact h1)] at h; cases h
  have h2 := Lib.data_getElem? s i hi
  rw [h] at h2
  unfold bt
  rw [Int.toNat_natCast, dif_pos hi]
  rw [Option.some.inj h2]
theorem size_len (s : ByteArray) : s.size = s.data.toList.length := by rw [Array.length_toList, ByteArray.size_data]
theorem digit_eq (b : UInt8) : spec_l1Digit.f (b.toNat : Int) = some (Lib.digitVal b).isSome := by
  unfold spec_l1Digit.f Lib.digitVal
  by_cases h1 : 48 ≤ b.toNat
  · rw [if_pos (by omega)]
    by_cases h2 : b.toNat ≤ 57
    · rw [if_pos ⟨h1, h2⟩, decide_eq_true (by omega)]; rfl
    · rw [if_neg (by omega), decide_eq_false (by omega)]; rfl
  · rw [if_neg (by omega), if_neg (by omega)]; rfl
theorem l3Int_loop (s : ByteArray) (neg : Bool) (hn : s.data.toList.length ≤ 7) : ∀ (d k i v : Nat), i + d = s.data.toList.length → d < k → v < 10 ^ i →
    spec_l3Int.l0 k s neg (v : Int) (i : Int) = some (match Lib.decFrom v (s.data.toList.drop i) with | some m => (if neg = true then -(m : Int) else (m : Int), true) | none => (0, false)) := by
  intro d
  induction d with
  | zero =>
    intro k i v hi hk hv
    obtain ⟨k, rfl⟩ : ∃ m, k = m + 1 := ⟨k - 1, by omega⟩
    simp only [spec_l3Int.l0]
    have hp : 10 ^ i ≤ 10 ^ 7 := Nat.pow_le_pow_right (by omega) (by omega)
    rw [if_neg (by rw [size_len]; omega), List.drop_eq_nil_of_le (by omega)]
    simp only [Lib.decFrom]
    cases neg with
    | true => rw [if_pos rfl, if_pos rfl, wrap_id (by omega) (by omega)]
    | false => rfl
  | succ d ih =>
    intro k i v hi hk hv
    obtain ⟨k, rfl⟩ : ∃ m, k = m + 1 := ⟨k - 1, by omega⟩
    simp only [spec_l3Int.l0]
    have hp : 10 ^ (i + 1) ≤ 10 ^ 7 := Nat.pow_le_pow_right (by omega) (by omega)
    have hp1 : 10 ^ (i + 1) = 10 ^ i * 10 := Nat.pow_succ ..
    obtain ⟨b, hb⟩ : ∃ b, s.data.toList[i]? = some b := ⟨s.data.toList[i]'(by omega), by simp⟩
    have hdr : s.data.toList.drop i = b :: s.data.toList.drop (i + 1) := by
      rw [List.drop_eq_getElem_cons (show i < s.data.toList.length by omega)]
      congr 1
      rw [List.getElem?_eq_getElem (by omega)] at hb
      exact Option.some.inj hb
    rw [if_pos (by rw [size_len]; omega), if_pos (by omega), bt_at s i b hb, digit_eq, Option.bind_some, hdr]
    simp only [Lib.decFrom]
    cases hd : Lib.digitVal b with
    | none => rfl
    | some x =>
      obtain ⟨h1, h2, h3⟩ := Lib.digitVal_eq hd
      rw [if_pos (show (some x).isSome = true from rfl), wrap_id (x := 10 * (v : Int)) (by omega) (by omega), wrap_id (by omega) (by omega), wrap_id (x := (i : Int) + 1) (by omega) (by omega)]
      have e1 : 10 * (v : Int) + ((b.toNat : Int) - 48) % 256 = ((v * 10 + x : Nat) : Int) := by omega
      have e2 : (i : Int) + 1 = ((i + 1 : Nat) : Int) := by omega
      rw [e1, e2]
      exact ih k (i + 1) _ (by omega) (by omega) (by omega)
theorem l1In_7 (n : Nat) : spec_l1In.f (n : Int) 1 7 = some (decide (1 ≤ n ∧ n ≤ 7)) := by
  rw [l1In_eq]
  congr 1
  exact decide_eq_decide.2 (by omega)
theorem l3Int_mag (s : ByteArray) (neg : Bool) (k : Nat) (hk : 12 ≤ k) : spec_l3Int.j1 k s neg = some (match magL s.data.toList neg with | some m => (if neg = true then -(m : Int) else (m : Int), true) | none => (0, false)) := by
  obtain ⟨k, rfl⟩ : ∃ m, k = m + 2 := ⟨k - 2, by omega⟩
  simp only [spec_l3Int.j1, spec_l3Int.j2]
  rw [size_len, l1In_7, Option.bind_some]
  unfold magL
  by_cases h1 : 1 ≤ s.data.toList.length ∧ s.data.toList.length ≤ 7
  · obtain ⟨b, hb⟩ : ∃ b, s.data.toList[0]? = some b := ⟨s.data.toList[0]'(by omega), by simp⟩
    have hhd : s.data.toList.head? = some b := by rw [← hb]; cases s.data.toList <;> rfl
    have hlp := l3Int_loop s neg h1.2 s.data.toList.length k 0 0 (by omega) (by omega) (by decide)
    rw [List.drop_zero] at hlp
    have e0 := bt_at s 0 b hb
    rw [Int.natCast_zero] at e0 hlp
    rw [decide_eq_true h1, if_pos rfl, if_pos (by omega), e0, hhd]
    have h48 : ((b.toNat : Int) = 48) ↔ (some b = some (48 : UInt8)) := by
      constructor
      · intro h
        congr 1
        apply UInt8.toNat_inj.1
        rw [show (48 : UInt8).toNat = 48 from rfl]; omega
      · intro h
        rw [Option.some.inj h]; rfl
    by_cases h2 : (b.toNat : Int) = 48
    · rw [if_pos h2]
      by_cases h3 : 1 < s.data.toList.length
      · rw [if_pos (by omega), if_pos trivial, if_neg (fun h => h.2.2 ⟨h48.1 h2, .inl h3⟩)]
      · rw [if_neg (by omega)]
        cases neg with
        | true => rw [if_pos rfl, if_neg (fun h => h.2.2 ⟨h48.1 h2, .inr rfl⟩)]
        | false =>
          rw [if_neg (by decide), if_pos ⟨h1.1, h1.2, fun h => by rcases h.2 with h | h; omega; cases h⟩]
          exact hlp
    · rw [if_neg h2, if_neg (by decide), if_pos ⟨h1.1, h1.2, fun h => h2 (h48.2 h.1)⟩]
      exact hlp
  · rw [decide_eq_false h1, if_neg (by decide), if_pos trivial, if_neg (fun h => h1 ⟨h.1, h.2.1⟩)]
theorem extract_tail (s : ByteArray) : (s.extract 1 s.size).data.toList = s.data.toList.tail := by
  rw [Lib.extract_to_end, List.drop_one]
theorem l3Int_eq (s : ByteArray) (k : Nat) (hk : 13 ≤ k) : spec_l3Int.f k s = some (match sintL s.data.toList with | some n => (n, true) | none => (0, false)) := by
  obtain ⟨k, rfl⟩ : ∃ m, k = m + 1 := ⟨k - 1, by omega⟩
  unfold spec_l3Int.f sintL
  simp only [spec_l3Int.j0]
  rw [size_len]
  by_cases h1 : 1 < s.data.toList.length
  · obtain ⟨b, hb⟩ : ∃ b, s.data.toList[0]? = some b := ⟨s.data.toList[0]'(by omega), by simp⟩
    have hhd : s.data.toList.head? = some b := by rw [← hb]; cases s.data.toList <;> rfl
    have e0 := bt_at s 0 b hb
    rw [Int.natCast_zero] at e0
    rw [if_pos (by omega), if_pos (by omega), e0, hhd]
    by_cases h2 : b = 45
    · subst h2
      rw [if_pos (by rfl), if_pos (by omega), ← size_len, show ((((45 : UInt8).toNat : Int)) == 45) = true from rfl, l3Int_mag _ _ _ (by omega), extract_tail, if_pos ⟨by rw [size_len]; exact h1, rfl⟩]
      cases magL s.data.toList.tail true <;> rfl
    · have hne : ((b.toNat : Int) == 45) = false := by
        rw [beq_eq_false_iff_ne]
        intro h
        apply h2
        apply UInt8.toNat_inj.1
        rw [show (45 : UInt8).toNat = 45 from rfl]; omega
      rw [hne, if_neg (by decide), l3Int_mag _ _ _ (by omega), if_neg (fun h => h2 (Option.some.inj h.2))]
      cases magL s.data.toList false <;> rfl
  · rw [if_neg (by omega), if_neg (by decide), l3Int_mag _ _ _ (by omega), if_neg (fun h => h1 h.1)]
    cases magL s.data.toList false <;> rfl
end Go.Proofs.YtgoiifpimpnlpaaDoor.PAll

namespace Go.Proofs.YtgoiifpimpnlpaaDoor.PAll
open Go.RowKit Go.Proofs.YtgoiifpimpnlpaaDoorW.PrintWords Go.Proofs.YtgoiifpimpnlpaaDoorW.PrintLast Go.Proofs.YtgoiifpimpnlpaaDoorW.PrintMore
set_option linter.unusedVariables false
set_option linter.unusedSimpArgs false

/-- A text cut at its blanks. -/
def spl : List UInt8 → List (List UInt8)
  | [] => [[]]
  | c :: r => if c = 32 then [] :: spl r else match spl r with
    | w :: ws => (c :: w) :: ws
    | [] => [[c]]
theorem spl_cons (l : List UInt8) : ∃ w ws, spl l = w :: ws := by
  cases l with
  | nil => exact ⟨_, _, rfl⟩
  | cons c r =>
    simp only [spl]
    split
    · exact ⟨_, _, rfl⟩
    · split <;> exact ⟨_, _, rfl⟩
theorem spl_pre : ∀ (p r : List UInt8), 32 ∉ p → spl (p ++ 32 :: r) = p :: spl r := by
  intro p
  induction p with
  | nil => intro r _; simp [spl]
  | cons c p ih =>
    intro r h
    simp only [List.mem_cons, not_or] at h
    rw [List.cons_append, spl, if_neg (fun e => h.1 e.symm), ih r h.2]
theorem spl_one : ∀ (p : List UInt8), 32 ∉ p → spl p = [p] := by
  intro p
  induction p with
  | nil => intro _; rfl
  | cons c p ih =>
    intro h
    simp only [List.mem_cons, not_or] at h
    rw [spl, if_neg (fun e => h.1 e.symm), ih h.2]
theorem joinTail_cons (x : List UInt8) (r : List (List UInt8)) : Lib.joinTail [32] (x :: r) = 32 :: (x ++ Lib.joinTail [32] r) := by simp [Lib.joinTail]
theorem join_spl : ∀ (l : List UInt8), Lib.join (spl l) [32] = l := by
  intro l
  induction l with
  | nil => simp [spl, Lib.join_one]
  | cons c r ih =>
    obtain ⟨w, ws, e⟩ := spl_cons r
    rw [e, Lib.join_cons] at ih
    by_cases h : c = 32
    · rw [spl, if_pos h, Lib.join_cons, e, joinTail_cons, ih, h]; rfl
    · rw [spl, if_neg h, e]
      simp only
      rw [Lib.join_cons, List.cons_append, ih]
theorem spl_join : ∀ (ws : List (List UInt8)), (∀ w ∈ ws, 32 ∉ w) → ws ≠ [] → spl (Lib.join ws [32]) = ws := by
  intro ws
  induction ws with
  | nil => intro _ h; exact absurd rfl h
  | cons w r ih =>
    intro h _
    cases r with
    | nil => rw [Lib.join_one, spl_one _ (h w (by simp))]
    | cons w2 r =>
      have := ih (fun x hx => h x (by simp [hx])) (by simp)
      rw [Lib.join_cons] at this
      rw [Lib.join_cons, joinTail_cons, spl_pre _ _ (h w (by simp)), this]

theorem strB_data (s : ByteArray) : strB s.data.toList = s := ByteArray.ext (Array.ext' (by simp [strB]))
theorem data_strB (l : List UInt8) : (strB l).data.toList = l := by simp [strB]
theorem ext_data {a b : ByteArray} (h : a.data.toList = b.data.toList) : a = b := ByteArray.ext (Array.ext' h)
/-- The program's words are these. -/
theorem split_spl : ∀ (n : Nat) (s : ByteArray), s.size ≤ n → Lib.splitB ⟨#[32]⟩ 0 (Lib.countB s ⟨#[32]⟩) s = (spl s.data.toList).map strB := by
  intro n
  induction n with
  | zero =>
    intro s h
    have hl : s.data.toList = [] := by rw [← List.length_eq_zero_iff, ← size_len]; omega
    have hi : Lib.indexB s ⟨#[32]⟩ = -1 := by unfold Lib.indexB; rw [hl]; rfl
    rw [Lib.countB_miss _ _ hi, Lib.splitB_zero, hl, ← strB_data s, hl]; rfl
  | succ n ih =>
    intro s h
    have hx : Lib.indexB s ⟨#[32]⟩ = Lib.indexByte s.data.toList 32 := Lib.index_one s.data.toList 32
    by_cases hi : Lib.indexByte s.data.toList 32 = -1
    · have hno := Lib.indexByte_none hi
      have h32 : 32 ∉ s.data.toList := fun hm => by
        obtain ⟨k, hk, e⟩ := List.mem_iff_getElem.1 hm
        exact hno k (by rw [List.getElem?_eq_getElem hk, e])
      rw [Lib.countB_miss _ _ (hx.trans hi), Lib.splitB_zero, spl_one _ h32, List.map_cons, strB_data]; rfl
    · have hge : -1 ≤ Lib.indexB s ⟨#[32]⟩ := Lib.index_ge _ _
      obtain ⟨i, hii⟩ : ∃ i : Nat, Lib.indexByte s.data.toList 32 = i := ⟨(Lib.indexByte s.data.toList 32).toNat, by rw [hx] at hge; omega⟩
      obtain ⟨hs, hb⟩ := Lib.indexByte_some hii
      have hlt : i < s.data.toList.length := by
        rcases Nat.lt_or_ge i s.data.toList.length with h | h
        · exact h
        · rw [List.getElem?_eq_none h] at hs; cases hs
      have e : s.data.toList = s.data.toList.take i ++ 32 :: s.data.toList.drop (i + 1) := by
        conv => lhs; rw [← List.take_append_drop i s.data.toList]
        rw [List.drop_eq_getElem_cons hlt]
        rw [List.getElem?_eq_getElem hlt] at hs
        rw [Option.some.inj hs]
      have h32 : 32 ∉ s.data.toList.take i := fun hm => by
        obtain ⟨k, hk, e⟩ := List.mem_iff_getElem.1 hm
        rw [List.length_take] at hk
        refine hb k (by omega) ?_
        rw [List.getElem_take] at e
        rw [List.getElem?_eq_getElem (by omega), e]
      have hsz : s.size = s.data.toList.length := size_len s
      rw [Lib.countB_hit s _ i (by decide) (hx.trans hii), Nat.add_comm, Lib.splitB_hit _ _ _ _ i (hx.trans hii)]
      have hr : (s.extract (i + (⟨#[32]⟩ : ByteArray).size) s.size).data.toList = s.data.toList.drop (i + 1) := by rw [Lib.extract_to_end]; rfl
      rw [ih _ (by rw [size_len, hr, List.length_drop]; omega), hr, e, spl_pre _ _ h32, List.map_cons]
      rw [← e]
      congr 1
      apply ext_data
      rw [data_strB, Lib.extract_from_zero, Nat.add_zero]
theorem wordsOf_eq (s : ByteArray) : wordsOf s = (spl s.data.toList).map strB := split_spl s.size s (Nat.le_refl _)
/-- The reference's words are these too. -/
theorem l3Split_loop (s : ByteArray) (hm : s.size ≤ 3000) : ∀ (d k i f : Nat) (x5 : List ByteArray), i + d = s.data.toList.length → d < k → f ≤ i → 32 ∉ (s.data.toList.drop f).take (i - f) → x5.length + d ≤ 3000 →
    spec_l3Split.l0 k s 32 x5 (f : Int) (i : Int) = some (x5 ++ (spl (s.data.toList.drop f)).map strB) := by
  have hsz : s.size = s.data.toList.length := size_len s
  intro d
  induction d with
  | zero =>
    intro k i f x5 hi hk hf h32 hl
    obtain ⟨k, rfl⟩ : ∃ m, k = m + 1 := ⟨k - 1, by omega⟩
    simp only [spec_l3Split.l0]
    rw [if_neg (by omega), if_pos (by omega), if_pos (by omega), if_pos (by omega)]
    rw [List.take_of_length_le (by rw [List.length_drop]; omega)] at h32
    rw [spl_one _ h32, List.map_cons, List.map_nil]
    congr 3
    apply ext_data
    rw [data_strB, Int.toNat_natCast, Lib.extract_to_end]
  | succ d ih =>
    intro k i f x5 hi hk hf h32 hl
    obtain ⟨k, rfl⟩ : ∃ m, k = m + 1 := ⟨k - 1, by omega⟩
    simp only [spec_l3Split.l0]
    have hlt : i < s.data.toList.length := by omega
    obtain ⟨b, hb⟩ : ∃ b, s.data.toList[i]? = some b := ⟨s.data.toList[i]'hlt, by simp⟩
    have hbb : s.data.toList[i] = b := by rw [List.getElem?_eq_getElem hlt] at hb; exact Option.some.inj hb
    have edr : s.data.toList.drop f = (s.data.toList.drop f).take (i - f) ++ b :: s.data.toList.drop (i + 1) := by
      conv => lhs; rw [← List.take_append_drop (i - f) (s.data.toList.drop f)]
      rw [List.drop_drop, show f + (i - f) = i by omega, List.drop_eq_getElem_cons hlt, hbb]
    have e2 : (i : Int) + 1 = ((i + 1 : Nat) : Int) := by omega
    rw [if_pos (by omega), if_pos (by omega), bt_at s i b hb, wrap_id (x := (i : Int) + 1) (by omega) (by omega), e2]
    by_cases h : b = 32
    · subst h
      rw [if_pos (show (((32 : UInt8).toNat : Nat) : Int) = 32 from rfl), if_pos (by omega), if_pos (by omega), if_pos (by omega), if_pos (by omega), ih k (i + 1) (i + 1) _ (by omega) (by omega) (by omega) (by simp) (by simp; omega)]
      conv => rhs; rw [edr]
      have ee : s.extract (f : Int).toNat (i : Int).toNat = strB ((s.data.toList.drop f).take (i - f)) := ext_data (by rw [data_strB, Int.toNat_natCast, Int.toNat_natCast, Lib.extract_data])
      rw [spl_pre _ _ h32, List.map_cons, List.append_assoc, List.singleton_append, ee]
    · have hne : ¬ (b.toNat : Int) = 32 := fun h1 => h (UInt8.toNat_inj.1 (by rw [show (32 : UInt8).toNat = 32 from rfl]; omega))
      rw [if_neg hne]
      refine ih k (i + 1) f x5 (by omega) (by omega) (by omega) ?_ (by omega)
      rw [show i + 1 - f = (i - f) + 1 by omega, List.take_add_one, List.getElem?_drop, show f + (i - f) = i by omega, hb]
      intro hm
      rcases List.mem_append.1 hm with h1 | h1
      · exact h32 h1
      · simp at h1; exact h h1.symm
theorem l3Split_eq (s : ByteArray) (hm : s.size ≤ 2000) (k : Nat) (hk : 2001 ≤ k) : spec_l3Split.f k s 32 = some ((spl s.data.toList).map strB) := by
  have hsz : s.size = s.data.toList.length := size_len s
  have := l3Split_loop s (by omega) s.data.toList.length k 0 0 [] (by omega) (by omega) (by omega) (by simp) (by simp; omega)
  rw [List.drop_zero, List.nil_append] at this
  exact this
end Go.Proofs.YtgoiifpimpnlpaaDoor.PAll

namespace Go.Proofs.YtgoiifpimpnlpaaDoor.PAll
open Go.RowKit Go.Proofs.YtgoiifpimpnlpaaDoorW.PrintWords Go.Proofs.YtgoiifpimpnlpaaDoorW.PrintLast Go.Proofs.YtgoiifpimpnlpaaDoorW.PrintMore
set_option linter.unusedVariables false
set_option linter.unusedSimpArgs false

/-- A word read strictly. -/
def sread (w : List UInt8) : Option S41 :=
  if w = [92] then some ⟨3, 0⟩ else if w = [64] then some ⟨4, 0⟩ else if w = [43] then some ⟨5, 0⟩ else if w = [63] then some ⟨6, 0⟩ else if w = [61] then some ⟨7, 0⟩
  else if w.head? = some 118 then (sintL w.tail).map (fun n => (⟨1, n⟩ : S41)) else (sintL w).map (fun n => (⟨2, n⟩ : S41))
def readAll : List (List UInt8) → Option (List S41)
  | [] => some []
  | w :: r => (sread w).bind fun c => (readAll r).map fun cs => c :: cs
def finT (l : List S41) : List S41 × Bool := if (tmof l).isSome = true then (l, true) else ([], false)

theorem sint_nil : sintL [] = none := rfl
theorem index_none (c : UInt8) (h1 : [c] ≠ [92]) (h2 : [c] ≠ [64]) (h3 : [c] ≠ [43]) (h4 : [c] ≠ [63]) (h5 : [c] ≠ [61]) : ¬ 0 ≤ signAt [c] := by
  have e : signAt [c] = Lib.indexByte [92, 64, 43, 63, 61] c := rfl
  intro h
  obtain ⟨o, ho⟩ : ∃ o : Nat, Lib.indexByte [92, 64, 43, 63, 61] c = o := ⟨(signAt [c]).toNat, by rw [← e]; omega⟩
  have hm := List.mem_of_getElem? (Lib.indexByte_some ho).1
  simp only [List.mem_cons, List.not_mem_nil, or_false] at hm
  rcases hm with rfl | rfl | rfl | rfl | rfl
  · exact h1 rfl
  · exact h2 rfl
  · exact h3 rfl
  · exact h4 rfl
  · exact h5 rfl
theorem sign_neg (w : List UInt8) (h1 : w ≠ [92]) (h2 : w ≠ [64]) (h3 : w ≠ [43]) (h4 : w ≠ [63]) (h5 : w ≠ [61]) : ¬ 0 ≤ signAt w := by
  cases w with
  | nil => decide
  | cons c r => cases r with
    | nil => exact index_none c h1 h2 h3 h4 h5
    | cons d r => exact (by show ¬ (0 : Int) ≤ -1; decide)
theorem pre_118 (r : List UInt8) : Lib.hasPrefix (118 :: r) [118] = true ∧ Lib.trimPrefix (118 :: r) [118] = r := by
  constructor
  · simp [Lib.hasPrefix]
  · simp [Lib.trimPrefix, Lib.hasPrefix]
theorem pre_other (w : List UInt8) (h : w.head? ≠ some 118) : Lib.hasPrefix w [118] = false := by
  cases w with
  | nil => rfl
  | cons c r =>
    have : c ≠ 118 := fun e => h (by rw [e]; rfl)
    have h2 : ((118 : UInt8) == c) = false := by rw [beq_eq_false_iff_ne]; exact fun e => this e.symm
    show ((118 : UInt8) == c && List.isPrefixOf [] r) = false
    rw [h2]; rfl
theorem sread_back {w : List UInt8} {c : S41} (h : sread w = some c) : w = cellT c ∧ cellOf w = c := by
  unfold sread at h
  by_cases h1 : w = [92]
  · rw [if_pos h1] at h; cases h; subst h1; exact ⟨rfl, rfl⟩
  by_cases h2 : w = [64]
  · rw [if_neg h1, if_pos h2] at h; cases h; subst h2; exact ⟨rfl, rfl⟩
  by_cases h3 : w = [43]
  · rw [if_neg h1, if_neg h2, if_pos h3] at h; cases h; subst h3; exact ⟨rfl, rfl⟩
  by_cases h4 : w = [63]
  · rw [if_neg h1, if_neg h2, if_neg h3, if_pos h4] at h; cases h; subst h4; exact ⟨rfl, rfl⟩
  by_cases h5 : w = [61]
  · rw [if_neg h1, if_neg h2, if_neg h3, if_neg h4, if_pos h5] at h; cases h; subst h5; exact ⟨rfl, rfl⟩
  rw [if_neg h1, if_neg h2, if_neg h3, if_neg h4, if_neg h5] at h
  have hs := sign_neg w h1 h2 h3 h4 h5
  unfold cellOf
  rw [if_neg hs]
  split at h
  · rename_i hh
    obtain ⟨n, hn, rfl⟩ := Option.map_eq_some_iff.1 h
    cases w with
    | nil => cases hh
    | cons b r =>
      obtain rfl : b = 118 := by simpa using hh
      rw [List.tail_cons] at hn
      obtain ⟨e, n0, n1⟩ := sint_back hn
      obtain ⟨p1, p2⟩ := pre_118 r
      rw [if_pos p1, p2]
      refine ⟨by rw [e]; rfl, ?_⟩
      rw [e, numV_itoa n n0 n1]
  · rename_i hh
    obtain ⟨n, hn, rfl⟩ := Option.map_eq_some_iff.1 h
    obtain ⟨e, n0, n1⟩ := sint_back hn
    rw [if_neg (by rw [pre_other w hh]; decide)]
    refine ⟨by rw [e]; rfl, ?_⟩
    conv => lhs; rw [e, numV_itoa n n0 n1]
theorem dec_bytes (u : Nat) : ∀ b ∈ Lib.decDigits u, 48 ≤ b.toNat ∧ b.toNat ≤ 57 := by
  intro b hb
  obtain ⟨k, hk, e⟩ := List.mem_iff_getElem.1 hb
  obtain ⟨d, hd⟩ := Lib.digit_of_decFrom _ _ _ (dec_value u u (Nat.le_refl _)) k b (by rw [List.getElem?_eq_getElem hk, e])
  have := Lib.digitVal_eq hd
  exact ⟨this.1, this.2.1⟩
theorem itoa_bytes (n : Int) : ∀ b ∈ Lib.itoa n, b.toNat = 45 ∨ (48 ≤ b.toNat ∧ b.toNat ≤ 57) := by
  intro b hb
  unfold Lib.itoa at hb
  split at hb
  · rcases List.mem_cons.1 hb with rfl | hb
    · exact .inl rfl
    · exact .inr (dec_bytes _ b hb)
  · exact .inr (dec_bytes _ b hb)
theorem itoa_no (n : Int) (x : UInt8) (h1 : x.toNat ≠ 45) (h2 : x.toNat < 48 ∨ 57 < x.toNat) : x ∉ Lib.itoa n := by
  intro h
  rcases itoa_bytes n x h with h | h <;> omega
theorem cellT_read {c : S41} (h : cellB c = true) : (sread (cellT c)).isSome = true ∧ 32 ∉ cellT c := by
  obtain ⟨k, n⟩ := c
  rcases cell_kinds h with ⟨h1, h2, h3⟩ | ⟨h1, h2, h3⟩ | h1 | h1 | h1 | h1 | h1
  · simp only at h1 h2 h3
    subst h1
    have e : cellT ⟨1, n⟩ = 118 :: Lib.itoa n := rfl
    rw [e]
    refine ⟨?_, ?_⟩
    · unfold sread
      rw [if_neg (by intro h; injection h with h _; revert h; decide), if_neg (by intro h; injection h with h _; revert h; decide), if_neg (by intro h; injection h with h _; revert h; decide), if_neg (by intro h; injection h with h _; revert h; decide), if_neg (by intro h; injection h with h _; revert h; decide), if_pos (show (118 :: Lib.itoa n).head? = some 118 from rfl), List.tail_cons, itoa_sint n (by omega) (by omega)]
      rfl
    · intro h
      rcases List.mem_cons.1 h with h | h
      · revert h; decide
      · exact itoa_no n 32 (by decide) (by decide) h
  · simp only at h1 h2 h3
    subst h1
    have e : cellT ⟨2, n⟩ = Lib.itoa n := rfl
    rw [e]
    refine ⟨?_, itoa_no n 32 (by decide) (by decide)⟩
    unfold sread
    repeat' split
    all_goals try rfl
    · rename_i hh
      have := List.mem_of_mem_head? hh
      exact absurd this (itoa_no n 118 (by decide) (by decide))
    · rw [itoa_sint n (by omega) (by omega)]; rfl
  all_goals
    simp only at h1
    subst h1
    exact ⟨rfl, by show (32 : UInt8) ∉ ([_] : List UInt8); decide⟩
theorem readAll_back : ∀ (ws : List (List UInt8)) (cs : List S41), readAll ws = some cs → ws = cs.map cellT ∧ ws.map cellOf = cs := by
  intro ws
  induction ws with
  | nil => intro cs h; cases h; exact ⟨rfl, rfl⟩
  | cons w r ih =>
    intro cs h
    simp only [readAll] at h
    obtain ⟨c, hc, h⟩ := Option.bind_eq_some_iff.1 h
    obtain ⟨cs', hcs, rfl⟩ := Option.map_eq_some_iff.1 h
    obtain ⟨e1, e2⟩ := sread_back hc
    obtain ⟨e3, e4⟩ := ih cs' hcs
    exact ⟨by rw [List.map_cons, ← e1, ← e3], by rw [List.map_cons, e2, e4]⟩
theorem readAll_cells : ∀ (cs : List S41), (∀ c ∈ cs, cellB c = true) → (readAll (cs.map cellT)).isSome = true := by
  intro cs
  induction cs with
  | nil => intro _; rfl
  | cons c r ih =>
    intro h
    obtain ⟨x, hx⟩ := Option.isSome_iff_exists.1 (cellT_read (h c (by simp))).1
    obtain ⟨y, hy⟩ := Option.isSome_iff_exists.1 (ih (fun z hz => h z (by simp [hz])))
    simp only [List.map_cons, readAll, hx, hy, Option.bind_some, Option.map_some]; rfl
/-- Both readings are one. -/
theorem readFin_eq (s : ByteArray) (hs : s.size ≤ 2000) : readFin ((spl s.data.toList).map cellOf) s = match readAll (spl s.data.toList) with | some cs => finT cs | none => ([], false) := by
  cases h : readAll (spl s.data.toList) with
  | some cs =>
    obtain ⟨e1, e2⟩ := readAll_back _ _ h
    rw [e2]
    have et : termT cs = s.data.toList := by unfold termT; rw [← e1, join_spl]
    show readFin cs s = finT cs
    by_cases hq : (tmof cs).isSome = true
    · have ht : textOf cs = (s.data.toList, true) := by unfold textOf; rw [if_pos hq, et, if_pos (by rw [← size_len]; exact hs)]
      unfold readFin finT
      rw [ht, if_pos hq, if_pos ⟨rfl, strB_data s⟩]
    · have ht : textOf cs = ([], false) := by unfold textOf; rw [if_neg hq]
      unfold readFin finT
      rw [ht, if_neg hq, if_neg (fun h => by cases h.1)]
  | none =>
    obtain ⟨out, hout⟩ : ∃ out, out = (spl s.data.toList).map cellOf := ⟨_, rfl⟩
    rw [← hout]
    unfold readFin
    refine if_neg ?_
    rintro ⟨h1, h2⟩
    unfold textOf at h1 h2
    by_cases hq : (tmof out).isSome = true
    · rw [if_pos hq] at h1 h2
      by_cases hl : (termT out).length ≤ 2000
      · rw [if_pos hl] at h2
        have e : termT out = s.data.toList := by rw [← h2, data_strB]
        have hcb := (tmof_cellB hq).2
        have hne : out.map cellT ≠ [] := by
          obtain ⟨w, ws, ew⟩ := spl_cons s.data.toList
          rw [hout, ew]; simp
        have e2 := spl_join (out.map cellT) (fun w hw => by obtain ⟨c, hc, rfl⟩ := List.mem_map.1 hw; exact (cellT_read (hcb c hc)).2) hne
        rw [show Lib.join (out.map cellT) [32] = s.data.toList from e] at e2
        have := readAll_cells out hcb
        rw [← e2, h] at this
        cases this
      · rw [if_neg hl] at h1; cases h1
    · rw [if_neg hq] at h1; cases h1
end Go.Proofs.YtgoiifpimpnlpaaDoor.PAll

namespace Go.Proofs.YtgoiifpimpnlpaaDoor.PAll
open Go.RowKit Go.Proofs.YtgoiifpimpnlpaaDoorW.PrintWords Go.Proofs.YtgoiifpimpnlpaaDoorW.PrintLast Go.Proofs.YtgoiifpimpnlpaaDoorW.PrintMore
set_option linter.unusedVariables false
set_option linter.unusedSimpArgs false

theorem toList_strB (w : List UInt8) : (strB w).toList = w := ByteArray.toList_mk w
theorem read_loop (ws : List (List UInt8)) (hn : ws.length ≤ 3000) : ∀ (d k i : Nat) (x4 : List S41), i + d = ws.length → 2 * d + 3620 ≤ k → x4.length ≤ i →
    spec_ReadTerm.l0 k x4 (ws.map strB) (ws.length : Int) (i : Int) = some (match readAll (ws.drop i) with | some cs => finT (x4 ++ cs) | none => ([], false)) := by
  intro d
  induction d with
  | zero =>
    intro k i x4 hi hk hx
    obtain ⟨k, rfl⟩ : ∃ m, k = m + 1 := ⟨k - 1, by omega⟩
    simp only [spec_ReadTerm.l0]
    rw [if_neg (by omega), List.drop_eq_nil_of_le (by omega), GoodTerm_eq _ _ (by omega), Option.bind_some]
    simp only [readAll, List.append_nil, finT]
    cases (tmof x4).isSome <;> rfl
  | succ d ih =>
    intro k i x4 hi hk hx
    obtain ⟨k, rfl⟩ : ∃ m, k = m + 2 := ⟨k - 2, by omega⟩
    have hlt : i < ws.length := by omega
    obtain ⟨w, hw⟩ : ∃ w, w = ws[i] := ⟨_, rfl⟩
    have hrd : rdOf ByteArray.empty (ws.map strB) (i : Int) = strB w := by
      unfold rdOf
      rw [Int.toNat_natCast, List.getD_eq_getElem?_getD, List.getElem?_map, List.getElem?_eq_getElem hlt, ← hw]; rfl
    have hdr : ws.drop i = w :: ws.drop (i + 1) := by rw [List.drop_eq_getElem_cons hlt, hw]
    have e2 : wrap64 ((i : Int) + 1) = ((i + 1 : Nat) : Int) := by rw [wrap_id (by omega) (by omega)]; omega
    have key : ∀ c, sread w = some c → ∀ k', 2 * d + 3620 ≤ k' → spec_ReadTerm.l0 k' (x4 ++ [c]) (ws.map strB) (ws.length : Int) ((i + 1 : Nat) : Int) = some (match readAll (ws.drop i) with | some cs => finT (x4 ++ cs) | none => ([], false)) := by
      intro c hc k' hk'
      rw [ih k' (i + 1) (x4 ++ [c]) (by omega) hk' (by simp; omega), hdr]
      simp only [readAll, hc, Option.bind_some]
      cases readAll (ws.drop (i + 1)) with
      | none => rfl
      | some cs => simp only [Option.map_some, List.append_assoc, List.singleton_append]
    have bad : sread w = none → (some (([] : List S41), false)) = some (match readAll (ws.drop i) with | some cs => finT (x4 ++ cs) | none => ([], false)) := by
      intro hc
      rw [hdr]
      simp only [readAll, hc, Option.bind_none]
    have hx4 : x4.length < 8796093022208 := by omega
    simp only [spec_ReadTerm.l0, spec_ReadTerm.j1]
    rw [if_pos (by omega), if_pos (by omega), if_pos (by rw [List.length_map]; omega), hrd, toList_strB, e2]
    unfold sread at key bad
    by_cases h1 : w = [92]
    · rw [if_pos h1, if_pos hx4]; rw [if_pos h1] at key; exact key _ rfl (k + 1) (by omega)
    by_cases h2 : w = [64]
    · rw [if_neg h1, if_pos h2, if_pos hx4]; rw [if_neg h1, if_pos h2] at key; exact key _ rfl (k + 1) (by omega)
    by_cases h3 : w = [43]
    · rw [if_neg h1, if_neg h2, if_pos h3, if_pos hx4]; rw [if_neg h1, if_neg h2, if_pos h3] at key; exact key _ rfl (k + 1) (by omega)
    by_cases h4 : w = [63]
    · rw [if_neg h1, if_neg h2, if_neg h3, if_pos h4, if_pos hx4]; rw [if_neg h1, if_neg h2, if_neg h3, if_pos h4] at key; exact key _ rfl (k + 1) (by omega)
    by_cases h5 : w = [61]
    · rw [if_neg h1, if_neg h2, if_neg h3, if_neg h4, if_pos h5, if_pos hx4]; rw [if_neg h1, if_neg h2, if_neg h3, if_neg h4, if_pos h5] at key; exact key _ rfl (k + 1) (by omega)
    rw [if_neg h1, if_neg h2, if_neg h3, if_neg h4, if_neg h5] at key bad ⊢
    cases w with
    | nil =>
      rw [if_pos rfl, if_neg (by decide), l3Int_eq _ _ (by omega), data_strB, Option.bind_some, sint_nil]
      exact bad rfl
    | cons b r =>
      have hsz : (strB (b :: r)).size = r.length + 1 := by rw [strB_size]; rfl
      have hb0 : bt (strB (b :: r)) 0 = (b.toNat : Int) := bt_at (strB (b :: r)) 0 b (by rw [data_strB]; rfl)
      rw [if_neg (by simp), if_pos (by omega), hb0]
      by_cases h6 : b = 118
      · subst h6
        rw [if_pos (show (118 :: r).head? = some 118 from rfl), List.tail_cons] at key bad
        rw [if_pos (by rfl), if_pos (by omega), l3Int_eq _ _ (by omega), extract_tail, data_strB, List.tail_cons, Option.bind_some]
        cases hs : sintL r with
        | none => rw [hs] at bad; exact bad rfl
        | some n =>
          rw [hs] at key
          simp only
          rw [if_pos trivial, if_pos hx4]
          exact key _ rfl k (by omega)
      · have hne : ((b.toNat : Int) == 118) = false := by
          rw [beq_eq_false_iff_ne]
          intro h
          apply h6
          apply UInt8.toNat_inj.1
          rw [show (118 : UInt8).toNat = 118 from rfl]; omega
        have hh : (b :: r).head? ≠ some 118 := fun h => h6 (by simpa using h)
        rw [if_neg hh] at key bad
        rw [hne, if_neg (by decide), l3Int_eq _ _ (by omega), data_strB, Option.bind_some]
        cases hs : sintL (b :: r) with
        | none => rw [hs] at bad; exact bad rfl
        | some n =>
          rw [hs] at key
          simp only
          rw [if_pos trivial, if_pos hx4]
          exact key _ rfl k (by omega)
theorem readCells_eq (s : ByteArray) : readCells s = (spl s.data.toList).map cellOf := by
  unfold readCells
  rw [wordsOf_eq, List.map_map]
  apply List.map_congr_left
  intro x _
  show cellOf (strB x).data.toList = cellOf x
  rw [data_strB]
theorem spl_len : ∀ (l : List UInt8), (spl l).length ≤ l.length + 1 := by
  intro l
  induction l with
  | nil => exact Nat.le_refl _
  | cons c r ih =>
    simp only [spl]
    split
    · simp; exact ih
    · obtain ⟨w, ws, e⟩ := spl_cons r
      rw [e] at ih ⊢
      simp at ih ⊢; omega
theorem ReadTerm_eq (s : ByteArray) (k : Nat) (hk : 8000 ≤ k) : spec_ReadTerm.f k s = some (readOf s) := by
  unfold spec_ReadTerm.f readOf
  by_cases h : 2000 < s.size
  · rw [if_pos (by omega), if_pos h]
  · have hl := spl_len s.data.toList
    rw [← size_len] at hl
    have hr := read_loop (spl s.data.toList) (by omega) (spl s.data.toList).length k 0 [] (by omega) (by omega) (by simp)
    rw [Int.natCast_zero] at hr
    rw [if_neg (by omega), if_neg h, l3Split_eq s (by omega) _ (by omega), Option.bind_some, List.length_map, hr, readCells_eq, readFin_eq s (by omega), List.drop_zero]
    congr 1
theorem readOf_len (s : ByteArray) : (readOf s).1.length ≤ 3000 := by
  unfold readOf readFin
  split
  · simp
  · split
    · have hl := spl_len s.data.toList
      rw [← size_len] at hl
      rw [readCells_eq, List.length_map]; omega
    · simp

/-! Marks. -/
def mkC (j : Nat) : S41 := ⟨((1 + 2 * j : Nat) : Int), ((2 + 2 * j : Nat) : Int)⟩

theorem markC_loop (n : Nat) (hn : n ≤ 17592186044416) : ∀ (d k i : Nat) (xs : List S41), xs.length = n → (∀ j, j < i → xs[j]? = some (mkC j)) → i + d = n → d < k → ∃ ys, laws_markCellS.l0 k xs ((1 + 2 * i : Nat) : Int) (i : Int) = some (((1 + 2 * n : Nat) : Int), ys) ∧ ys.length = n ∧ ∀ j, j < n → ys[j]? = some (mkC j) := by
  intro d
  induction d with
  | zero =>
    intro k i xs hx hj hi hk
    obtain ⟨k, rfl⟩ : ∃ m, k = m + 1 := ⟨k - 1, by omega⟩
    simp only [laws_markCellS.l0]
    rw [if_neg (by omega)]
    obtain rfl : i = n := by omega
    exact ⟨xs, rfl, hx, hj⟩
  | succ d ih =>
    intro k i xs hx hj hi hk
    obtain ⟨k, rfl⟩ : ∃ m, k = m + 1 := ⟨k - 1, by omega⟩
    simp only [laws_markCellS.l0]
    rw [if_pos (by omega), if_pos (by omega), Option.bind_some, wrap_id (x := ((1 + 2 * i : Nat) : Int) + 1) (by omega) (by omega), wrap_id (x := (i : Int) + 1) (by omega) (by omega), wrap_id (by omega) (by omega)]
    have e1 : ((1 + 2 * i : Nat) : Int) + 1 + 1 = ((1 + 2 * (i + 1) : Nat) : Int) := by omega
    have e2 : (i : Int) + 1 = ((i + 1 : Nat) : Int) := by omega
    have e3 : ((1 + 2 * i : Nat) : Int) + 1 = ((2 + 2 * i : Nat) : Int) := by omega
    have hrd : (rd_T41 (xs.set (i : Int).toNat ⟨((1 + 2 * i : Nat) : Int), (rd_T41 xs (i : Int)).f1⟩) (i : Int)).f0 = ((1 + 2 * i : Nat) : Int) := by
      simp [rd_T41, List.getD_eq_getElem?_getD, List.getElem?_set_self (show i < xs.length by omega)]
    rw [hrd, e1, e2, e3]
    refine ih k (i + 1) _ (by simp [hx]) (fun j hj' => ?_) (by omega) (by omega)
    rw [Int.toNat_natCast]
    by_cases hji : j = i
    · subst hji
      rw [List.getElem?_set_self (by simp; omega)]
      rfl
    · rw [List.getElem?_set_ne (by omega), List.getElem?_set_ne (by omega)]
      exact hj j (by omega)
theorem heldC_loop (n : Nat) (hn : n ≤ 17592186044416) (ys : List S41) (hy : ys.length = n) (hj : ∀ j, j < n → ys[j]? = some (mkC j)) : ∀ (d k i : Nat), i + d = n → d < k → laws_heldCellS.l0 k ys ((1 + 2 * i : Nat) : Int) (i : Int) = some ((1 + 2 * n : Nat) : Int) := by
  intro d
  induction d with
  | zero =>
    intro k i hi hk
    obtain ⟨k, rfl⟩ : ∃ m, k = m + 1 := ⟨k - 1, by omega⟩
    simp only [laws_heldCellS.l0]
    rw [if_neg (by omega)]
    obtain rfl : i = n := by omega
    rfl
  | succ d ih =>
    intro k i hi hk
    obtain ⟨k, rfl⟩ : ∃ m, k = m + 1 := ⟨k - 1, by omega⟩
    have hr : rd_T41 ys (i : Int) = mkC i := by simp only [rd_T41, Int.toNat_natCast, List.getD_eq_getElem?_getD]; rw [hj i (by omega)]; rfl
    simp only [laws_heldCellS.l0, hr, mkC]
    rw [if_pos (by omega), if_pos (by omega), if_pos trivial, wrap_id (x := ((1 + 2 * i : Nat) : Int) + 1) (by omega) (by omega), if_pos (by omega), wrap_id (x := (i : Int) + 1) (by omega) (by omega), wrap_id (by omega) (by omega)]
    have e1 : ((1 + 2 * i : Nat) : Int) + 1 + 1 = ((1 + 2 * (i + 1) : Nat) : Int) := by omega
    have e2 : (i : Int) + 1 = ((i + 1 : Nat) : Int) := by omega
    rw [e1, e2]
    exact ih k (i + 1) (by omega) (by omega)
theorem markHeldC_eq (xs : List S41) (hn : xs.length ≤ 17592186044416) (k : Nat) (hk : xs.length < k) : ∃ ys, laws_markCellS.f k xs 1 = some (((1 + 2 * xs.length : Nat) : Int), ys) ∧ ∀ q, xs.length < q → laws_heldCellS.f q ys 1 = some ((1 + 2 * xs.length : Nat) : Int) := by
  unfold laws_markCellS.f laws_heldCellS.f
  obtain ⟨ys, h, hy, hj⟩ := markC_loop xs.length hn xs.length k 0 xs rfl (fun j h => by omega) (by omega) hk
  exact ⟨ys, h, fun q hq => heldC_loop xs.length hn ys hy hj xs.length q 0 (by omega) hq⟩


theorem FnExactReadTerm_pure (a0 : ByteArray) : ∃ k, laws_FnExactReadTerm.f k a0 = some true := by
  refine ⟨20000, ?_⟩
  unfold laws_FnExactReadTerm.f
  by_cases h : 1048576 < a0.size
  · rw [if_pos (by omega)]
  · rw [if_neg (by omega), ReadTerm_eq a0 _ (by omega), Option.bind_some]
    have hlen := readOf_len a0
    have hself := eqCellS_self (readOf a0).1 (by omega)
    obtain ⟨ys, hm, hh⟩ := markHeldC_eq (readOf a0).1 (by omega) 19999 (by omega)
    unfold impl_ReadTerm.f
    rw [Option.bind_some, hself 20000 (by omega), Option.bind_some, if_pos rfl]
    have hb : ((readOf a0).2 != (readOf a0).2) = false := by simp
    rw [hb]
    simp only [laws_FnExactReadTerm.j0]
    rw [if_neg (by decide), hm, Option.bind_some]
    simp only
    rw [hh 19999 (by omega), Option.bind_some, if_neg (by omega), if_pos rfl]
    unfold impl_ReadTerm.f
    rw [Option.bind_some, hself 19999 (by omega), Option.bind_some, if_pos rfl, hb]
    simp only [laws_FnExactReadTerm.j1]
    rw [if_neg (by decide), hh 19998 (by omega), Option.bind_some, if_neg (by omega), if_pos rfl]
end Go.Proofs.YtgoiifpimpnlpaaDoor.PAll
