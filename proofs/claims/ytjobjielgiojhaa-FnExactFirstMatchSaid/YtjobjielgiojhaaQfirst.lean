/- The reference's FirstMatch answers as fmOf. -/
import Derived.Test.YtjobjielgiojhaaQpatC
import Derived.Test.YtjobjielgiojhaaHfirst
import Derived.Test.YtjobjielgiojhaaHpatA
import Derived.Test.YtjobjielgiojhaaHpatB
import Derived.Test.YtjobjielgiojhaaHpatC
import Derived.Test.YtjobjielgiojhaaHpatD
import Derived.Test.YtjobjielgiojhaaHtakes
import Derived.Test.YtjobjielgiojhaaPAllx23
import Derived.Test.YtjobjielgiojhaaPAllx24
namespace Go.Proofs.Ytjobjielgiojhaa.PAll
open Go.RowKit Go.Proofs.YtjobjielgiojhaaW.PrintWords Go.Proofs.YtjobjielgiojhaaW.PrintLast Go.Proofs.YtjobjielgiojhaaW.PrintMore
set_option linter.unusedVariables false
set_option linter.unusedSimpArgs false

mutual
def Pt.sz : Pt → Nat
  | .mk _ _ ks => 1 + szL ks
def szL : List Pt → Nat
  | [] => 0
  | k :: ks => k.sz + szL ks
end
mutual
/-- No constructor is below 0. -/
def Pt.nn : Pt → Prop
  | .mk any c ks => (any = true ∨ 0 ≤ c) ∧ nnL ks
def nnL : List Pt → Prop
  | [] => True
  | k :: ks => k.nn ∧ nnL ks
end
theorem sz_pos (p : Pt) : 1 ≤ p.sz := by cases p; simp only [Pt.sz]; omega

theorem pkids_nn {f : List S139 → Option (Pt × List S139)} (hf : ∀ l t r, f l = some (t, r) → t.nn ∧ t.sz + r.length ≤ l.length) : ∀ m l ts r, pkids f m l = some (ts, r) → nnL ts ∧ szL ts + r.length ≤ l.length := by
  intro m
  induction m with
  | zero => intro l ts r h; simp [pkids] at h; obtain ⟨rfl, rfl⟩ := h; simp [nnL, szL]
  | succ m ih =>
    intro l ts r h
    simp only [pkids] at h
    cases h1 : f l with
    | none => rw [h1] at h; simp at h
    | some p =>
      obtain ⟨t, r1⟩ := p
      rw [h1] at h
      simp only at h
      cases h2 : pkids f m r1 with
      | none => rw [h2] at h; simp at h
      | some q =>
        obtain ⟨ts', r2⟩ := q
        rw [h2] at h
        simp at h
        obtain ⟨rfl, rfl⟩ := h
        have a := hf _ _ _ h1
        have b := ih _ _ _ h2
        simp only [nnL, szL]
        exact ⟨⟨a.1, b.1⟩, by omega⟩
theorem pparse_nn {cons : List Int} : ∀ (k : Nat) (l : List S139) (t : Pt) (r : List S139), pparse cons k l = some (t, r) → t.nn ∧ t.sz + r.length ≤ l.length := by
  intro k
  induction k with
  | zero => intro l t r h; simp [pparse] at h
  | succ k ih =>
    intro l t r h
    cases l with
    | nil => simp [pparse] at h
    | cons x l =>
      simp only [pparse] at h
      split at h
      · simp at h; obtain ⟨rfl, rfl⟩ := h; simp [Pt.nn, nnL, Pt.sz, szL]; omega
      · split at h
        · rename_i h2
          cases h1 : pkids (pparse cons k) (cons.getD x.f1.toNat 0).toNat l with
          | none => rw [h1] at h; simp at h
          | some p =>
            obtain ⟨ts, r1⟩ := p
            rw [h1] at h
            simp at h
            obtain ⟨rfl, rfl⟩ := h
            obtain ⟨a1, a2⟩ := pkids_nn ih _ _ _ _ h1
            simp only [Pt.nn, Pt.sz, List.length_cons]
            exact ⟨⟨.inr h2.2.1, a1⟩, by omega⟩
        · simp at h
theorem pof_nn {cons : List Int} {most : Nat} {l : List S139} {t : Pt} (h : pof cons most l = some t) : t.nn ∧ t.sz ≤ most := by
  unfold pof at h
  split at h
  · split at h
    · rename_i hm _ _ h1
      injection h with h
      subst h
      have := pparse_nn _ _ _ _ h1
      exact ⟨this.1, by have := this.2; omega⟩
    · cases h
  · cases h
theorem valOf_nn {cons : List Int} {v : List Int} {t : Pt} (h : valOf cons v = some t) : t.nn ∧ t.sz ≤ 60 := by
  unfold valOf at h
  split at h
  · exact pof_nn h
  · cases h
theorem pofs_nn {cons : List Int} : ∀ {ls : List (List S139)} {ts : List Pt}, pofs cons ls = some ts → ∀ t ∈ ts, t.nn ∧ t.sz ≤ 40
  | [], ts, h => by simp [pofs] at h; subst h; simp
  | l :: ls, ts, h => by
    simp only [pofs] at h
    split at h
    · cases h
    · rename_i h1
      split at h
      · cases h
      · rename_i h2
        obtain rfl := Option.some.inj h
        intro t ht
        rcases List.mem_cons.1 ht with rfl | ht
        · exact pof_nn h1
        · exact pofs_nn h2 t ht
theorem rulesV_nn {cons : List Int} {ls : List (List S139)} {ts : List Pt} (h : rulesV cons ls = some ts) : ∀ t ∈ ts, t.nn ∧ t.sz ≤ 40 := by
  unfold rulesV at h
  split at h
  · exact pofs_nn h
  · cases h

theorem rd75_get {ks : List Pt} {i : Nat} {k : Pt} (h : ks[i]? = some k) : rd_T75 (cvPs ks) (i : Int) = cvP k := by
  have : (cvPs ks)[i]? = some (cvP k) := by rw [cvPs_get, h]; rfl
  simp [rd_T75, List.getD_eq_getElem?_getD, this]

theorem fits_loop {ks vs : List Pt} (hl : ks.length ≤ 1000) (hfl : fitsL ks vs) (c0 c1 : Int) (hk : ∀ k ∈ ks, ∀ v ∈ vs, k.fits v → ∀ q, 2 * k.sz ≤ q → spec_l8Fits.f q (cvP k).f0 (cvP k).f1 (cvP v).f0 (cvP v).f1 = some (k.takes v)) : ∀ (d i q : Nat), i + d = ks.length → 1 + 2 * szL (ks.drop i) ≤ q →
    spec_l8Fits.l0 q (ks.length : Int) (i : Int) c0 (cvPs ks) c1 (cvPs vs) = some (takesL (ks.drop i) (vs.drop i)) := by
  intro d
  induction d with
  | zero =>
    intro i q hi hq
    obtain ⟨q, rfl⟩ : ∃ m, q = m + 1 := ⟨q - 1, by omega⟩
    simp only [spec_l8Fits.l0]
    rw [if_neg (by omega), List.drop_eq_nil_of_le (by omega)]
    simp [takesL]
  | succ d ih =>
    intro i q hi hq
    obtain ⟨q, rfl⟩ : ∃ m, q = m + 1 := ⟨q - 1, by omega⟩
    have hlt : i < ks.length := by omega
    have hlen := hfl.len
    obtain ⟨k, hki⟩ : ∃ k, ks[i]? = some k := ⟨ks[i], by simp [hlt]⟩
    obtain ⟨v, hvi, hfk⟩ := hfl.get hki
    have hdk : ks.drop i = k :: ks.drop (i + 1) := by
      rw [List.drop_eq_getElem_cons hlt]
      rw [List.getElem?_eq_getElem hlt] at hki
      injection hki with hki
      rw [hki]
    rw [hdk] at hq
    simp only [szL] at hq
    have hsz := sz_pos k
    simp only [spec_l8Fits.l0]
    rw [if_pos (by omega), if_pos (by omega), if_pos (by rw [cvPs_len]; omega), if_pos (by rw [cvPs_len]; omega), rd75_get hki, rd75_get hvi, hk k (List.mem_of_getElem? hki) v (List.mem_of_getElem? hvi) hfk q (by omega), Option.bind_some, takesL_drop hki hvi]
    cases k.takes v with
    | false => simp
    | true =>
      rw [if_pos rfl, wrap_id (by omega) (by omega), Bool.true_and]
      exact ih (i + 1) q (by omega) (by omega)

theorem l8Fits_eq (p : Pt) : ∀ v : Pt, p.nn → v.nn → v.val → p.fits v → ∀ q, 2 * p.sz ≤ q → spec_l8Fits.f q (cvP p).f0 (cvP p).f1 (cvP v).f0 (cvP v).f1 = some (p.takes v) := by
  have key : ∀ (vs : List Pt), nnL vs → valL vs → ∀ v ∈ vs, v.nn ∧ v.val := by
    intro vs
    induction vs with
    | nil => intro _ _ v hv; cases hv
    | cons a vs ih =>
      intro h1 h2 v hv
      simp only [nnL, valL] at h1 h2
      rcases List.mem_cons.1 hv with rfl | hv
      · exact ⟨h1.1, h2.1⟩
      · exact ih h1.2 h2.2 v hv
  have key2 : ∀ (ks : List Pt), nnL ks → ∀ k ∈ ks, k.nn := by
    intro ks
    induction ks with
    | nil => intro _ k hk; cases hk
    | cons a ks ih =>
      intro h1 k hk
      simp only [nnL] at h1
      rcases List.mem_cons.1 hk with rfl | hk
      · exact h1.1
      · exact ih h1.2 k hk
  induction p using Pt.ind with
  | h any c ks ih =>
  intro v hp hv hvv hf q hq
  cases v with | mk any2 c2 ks2 =>
  simp only [Pt.sz] at hq
  obtain ⟨q, rfl⟩ : ∃ m, q = m + 1 := ⟨q - 1, by omega⟩
  simp only [Pt.nn, Pt.val] at hp hv hvv
  obtain ⟨ha2, hvv⟩ := hvv
  subst ha2
  cases any with
  | true => simp [cvP, spec_l8Fits.f, Pt.takes]
  | false =>
    have hc := hp.1.resolve_left (by simp)
    have hc2 := hv.1.resolve_left (by simp)
    have e1 : cvP (.mk false c ks) = ⟨c, cvPs ks⟩ := by simp [cvP]
    have e2 : cvP (.mk false c2 ks2) = ⟨c2, cvPs ks2⟩ := by simp [cvP]
    rw [e1, e2]
    simp only [spec_l8Fits.f]
    rw [if_neg (by omega)]
    by_cases hcc : c = c2
    · subst hcc
      obtain ⟨hk1, hfl⟩ : ks.length ≤ 1000 ∧ fitsL ks ks2 := by unfold Pt.fits at hf; exact hf rfl rfl
      rw [if_pos rfl, cvPs_len]
      have := fits_loop hk1 hfl c c (fun k hk v hv' hkv q' hq' => ih k hk v (key2 ks hp.2 k hk) (key ks2 hv.2 hvv v hv').1 (key ks2 hv.2 hvv v hv').2 hkv q' hq') ks.length 0 q (by omega) (by simp; omega)
      simp only [Int.cast_ofNat_Int, List.drop_zero] at this
      rw [this]
      simp [Pt.takes]
    · rw [if_neg hcc]
      simp [Pt.takes, hcc]

theorem first_loop {ts : List Pt} {v : Pt} (hl : ts.length ≤ 8) (hv : v.nn) (hvv : v.val) (ht : ∀ t ∈ ts, t.nn ∧ t.sz ≤ 40) (hf : ∀ t ∈ ts, t.fits v) : ∀ (d i q : Nat), i + d = ts.length → 100 + d ≤ q →
    spec_l8First.l0 q (cvPs ts) (ts.length : Int) (i : Int) (cvP v).f0 (cvP v).f1 = some (firstOf v (ts.drop i) (i : Int)) := by
  intro d
  induction d with
  | zero =>
    intro i q hi hq
    obtain ⟨q, rfl⟩ : ∃ m, q = m + 1 := ⟨q - 1, by omega⟩
    simp only [spec_l8First.l0]
    rw [if_neg (by omega), List.drop_eq_nil_of_le (by omega)]
    simp [firstOf]
  | succ d ih =>
    intro i q hi hq
    obtain ⟨q, rfl⟩ : ∃ m, q = m + 1 := ⟨q - 1, by omega⟩
    have hlt : i < ts.length := by omega
    obtain ⟨k, hki⟩ : ∃ k, ts[i]? = some k := ⟨ts[i], by simp [hlt]⟩
    have hm := List.mem_of_getElem? hki
    have hdk : ts.drop i = k :: ts.drop (i + 1) := by
      rw [List.drop_eq_getElem_cons hlt]
      rw [List.getElem?_eq_getElem hlt] at hki
      injection hki with hki
      rw [hki]
    simp only [spec_l8First.l0]
    rw [if_pos (by omega), if_pos (by omega), if_pos (by rw [cvPs_len]; omega), rd75_get hki, l8Fits_eq k v (ht k hm).1 hv hvv (hf k hm) q (by have := (ht k hm).2; omega), Option.bind_some, hdk]
    simp only [firstOf]
    cases k.takes v with
    | true => simp
    | false =>
      rw [if_neg (by simp), if_neg (by simp), wrap_id (by omega) (by omega)]
      exact ih (i + 1) q (by omega) (by omega)

theorem specFirst_eq (cons : List Int) (rs : List (List S139)) (v : List Int) (hc : cons.length ≤ 1048576) (hin : ∀ x ∈ rs, x.length ≤ 1048576) (k : Nat) (hk : 8500000 ≤ k) : spec_FirstMatch.f k cons rs v = some (fmOf cons rs v) := by
  have h1 := l8Rules_eq cons rs hc hin k hk
  have h2 := l8Value_eq cons v hc k (by omega)
  unfold spec_FirstMatch.f fmOf
  cases hq : rulesV cons rs with
  | none =>
    rw [hq] at h1
    rw [h1]
    cases hv : valOf cons v with
    | none => rw [hv] at h2; obtain ⟨c, ks, h2⟩ := h2; rw [h2]; simp
    | some x => rw [hv] at h2; simp only at h2; rw [h2]; simp
  | some ts =>
    rw [hq] at h1
    rw [h1]
    cases hv : valOf cons v with
    | none => rw [hv] at h2; obtain ⟨c, ks, h2⟩ := h2; rw [h2]; simp
    | some x =>
      rw [hv] at h2
      simp only at h2
      rw [h2]
      obtain ⟨w1, w2⟩ := rulesV_wf hq
      obtain ⟨x1, x2⟩ := valOf_wf hv
      have := first_loop (v := x) w2 (valOf_nn hv).1 x2 (rulesV_nn hq) (fun t ht => wf_fits cons t x (w1 t ht) x1 x2) ts.length 0 k (by omega) (by omega)
      simp only [Int.cast_ofNat_Int, List.drop_zero] at this
      simp only [Option.bind_some, if_true, spec_l8First.f, cvPs_len]
      rw [this]
      rfl
end Go.Proofs.Ytjobjielgiojhaa.PAll
