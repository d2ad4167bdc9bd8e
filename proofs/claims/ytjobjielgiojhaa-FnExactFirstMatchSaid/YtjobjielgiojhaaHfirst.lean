/- IndexFunc over patterns, FirstMatch by their contracts. -/
import Derived.Test.YtjobjielgiojhaaHtakes
namespace Go.Proofs.Ytjobjielgiojhaa.PAll
open Go.RowKit Go.Proofs.YtjobjielgiojhaaW.PrintWords Go.Proofs.YtjobjielgiojhaaW.PrintLast Go.Proofs.YtjobjielgiojhaaW.PrintMore
set_option linter.unusedVariables false
set_option linter.unusedSimpArgs false

mutual
def Pt.wf (cons : List Int) : Pt → Prop
  | .mk any c ks => (any = true ∨ (ks.length = (cons.getD c.toNat 0).toNat ∧ ks.length ≤ 1000)) ∧ wfL cons ks
def wfL (cons : List Int) : List Pt → Prop
  | [] => True
  | k :: ks => k.wf cons ∧ wfL cons ks
end
mutual
/-- A value: nothing in it fits all. -/
def Pt.val : Pt → Prop
  | .mk any _ ks => any = false ∧ valL ks
def valL : List Pt → Prop
  | [] => True
  | k :: ks => k.val ∧ valL ks
end

theorem wf_fits (cons : List Int) (p : Pt) : ∀ v : Pt, p.wf cons → v.wf cons → v.val → p.fits v := by
  refine Pt.rec (motive_1 := fun p => ∀ v : Pt, p.wf cons → v.wf cons → v.val → p.fits v) (motive_2 := fun ks => ∀ vs : List Pt, ks.length = vs.length → wfL cons ks → wfL cons vs → valL vs → fitsL ks vs) (fun any c ks ih => ?_) ?_ (fun k ks hk hks => ?_) p
  · intro v hp hv hvv
    cases v with | mk any2 c2 ks2 =>
    simp only [Pt.wf, Pt.val] at hp hv hvv
    unfold Pt.fits
    rintro rfl rfl
    have h1 := hp.1.resolve_left (by simp)
    have h2 := hv.1.resolve_left (by rw [hvv.1]; simp)
    exact ⟨h1.2, ih ks2 (by omega) hp.2 hv.2 hvv.2⟩
  · intro vs hl _ _ _
    cases vs with
    | nil => simp [fitsL]
    | cons => simp at hl
  · intro vs hl h1 h2 h3
    cases vs with
    | nil => simp at hl
    | cons v vs =>
      simp only [wfL, valL] at h1 h2 h3
      simp only [fitsL]
      exact ⟨hk v h1.1 h2.1 h3.1, hks vs (by simpa using hl) h1.2 h2.2 h3.2⟩

theorem wfL_app {cons : List Int} : ∀ {a b : List Pt}, wfL cons a → wfL cons b → wfL cons (a ++ b)
  | [], b, _, h => h
  | k :: ks, b, h1, h => by simp only [wfL] at h1; simp only [List.cons_append, wfL]; exact ⟨h1.1, wfL_app h1.2 h⟩

theorem pkids_wf {cons : List Int} {f : List S139 → Option (Pt × List S139)} (hf : ∀ l t r, f l = some (t, r) → t.wf cons) : ∀ m l ts r, pkids f m l = some (ts, r) → wfL cons ts ∧ ts.length = m := by
  intro m
  induction m with
  | zero => intro l ts r h; simp [pkids] at h; obtain ⟨rfl, rfl⟩ := h; simp [wfL]
  | succ m ih =>
    intro l ts r h
    simp only [pkids] at h
    cases h1 : f l with
    | none => rw [h1] at h; simp at h
    | some p =>
      obtain ⟨t, r1⟩ := p
      rw [h1] at h
      simp only at h
      cases h2 : pkids f m r1 with
      | none => rw [h2] at h; simp at h
      | some q =>
        obtain ⟨ts', r2⟩ := q
        rw [h2] at h
        simp at h
        obtain ⟨rfl, rfl⟩ := h
        have := ih _ _ _ h2
        exact ⟨by simp only [wfL]; exact ⟨hf _ _ _ h1, this.1⟩, by simp [this.2]⟩
theorem pparse_wf {cons : List Int} (hs : ∀ n ∈ cons, 0 ≤ n ∧ n ≤ 2) : ∀ (k : Nat) (l : List S139) (t : Pt) (r : List S139), pparse cons k l = some (t, r) → t.wf cons := by
  intro k
  induction k with
  | zero => intro l t r h; simp [pparse] at h
  | succ k ih =>
    intro l t r h
    cases l with
    | nil => simp [pparse] at h
    | cons x l =>
      simp only [pparse] at h
      split at h
      · simp at h; obtain ⟨rfl, _⟩ := h; simp [Pt.wf, wfL]
      · split at h
        · rename_i h2
          cases h1 : pkids (pparse cons k) (cons.getD x.f1.toNat 0).toNat l with
          | none => rw [h1] at h; simp at h
          | some p =>
            obtain ⟨ts, r1⟩ := p
            rw [h1] at h
            simp at h
            obtain ⟨rfl, _⟩ := h
            obtain ⟨a1, a2⟩ := pkids_wf ih _ _ _ _ h1
            simp only [Pt.wf]
            refine ⟨.inr ⟨a2, ?_⟩, a1⟩
            rw [a2]
            have hl : x.f1.toNat < cons.length := by omega
            have := hs _ (List.getElem_mem hl)
            rw [List.getD_eq_getElem?_getD, List.getElem?_eq_getElem hl, Option.getD_some]
            omega
        · simp at h
theorem pkids_val {f : List S139 → Option (Pt × List S139)} (hf : ∀ l t r, (∀ x ∈ l, x.f0 = 2) → f l = some (t, r) → t.val ∧ ∀ x ∈ r, x.f0 = 2) : ∀ m l ts r, (∀ x ∈ l, x.f0 = 2) → pkids f m l = some (ts, r) → valL ts ∧ ∀ x ∈ r, x.f0 = 2 := by
  intro m
  induction m with
  | zero => intro l ts r hl h; simp [pkids] at h; obtain ⟨rfl, rfl⟩ := h; exact ⟨by simp [valL], hl⟩
  | succ m ih =>
    intro l ts r hl h
    simp only [pkids] at h
    cases h1 : f l with
    | none => rw [h1] at h; simp at h
    | some p =>
      obtain ⟨t, r1⟩ := p
      rw [h1] at h
      simp only at h
      cases h2 : pkids f m r1 with
      | none => rw [h2] at h; simp at h
      | some q =>
        obtain ⟨ts', r2⟩ := q
        rw [h2] at h
        simp at h
        obtain ⟨rfl, rfl⟩ := h
        have a := hf _ _ _ hl h1
        have b := ih _ _ _ a.2 h2
        exact ⟨by simp only [valL]; exact ⟨a.1, b.1⟩, b.2⟩
theorem pparse_val {cons : List Int} : ∀ (k : Nat) (l : List S139) (t : Pt) (r : List S139), (∀ x ∈ l, x.f0 = 2) → pparse cons k l = some (t, r) → t.val ∧ ∀ x ∈ r, x.f0 = 2 := by
  intro k
  induction k with
  | zero => intro l t r _ h; simp [pparse] at h
  | succ k ih =>
    intro l t r hl h
    cases l with
    | nil => simp [pparse] at h
    | cons x l =>
      have hx := hl x (by simp)
      simp only [pparse] at h
      split at h
      · rename_i h2; omega
      · split at h
        · cases h1 : pkids (pparse cons k) (cons.getD x.f1.toNat 0).toNat l with
          | none => rw [h1] at h; simp at h
          | some p =>
            obtain ⟨ts, r1⟩ := p
            rw [h1] at h
            simp at h
            obtain ⟨rfl, rfl⟩ := h
            obtain ⟨a1, a2⟩ := pkids_val ih _ _ _ _ (fun y hy => hl y (by simp [hy])) h1
            simp only [Pt.val]
            exact ⟨⟨trivial, a1⟩, a2⟩
        · simp at h

theorem pof_wf {cons : List Int} (hs : ∀ n ∈ cons, 0 ≤ n ∧ n ≤ 2) {most : Nat} {l : List S139} {t : Pt} (h : pof cons most l = some t) : t.wf cons := by
  unfold pof at h
  split at h
  · split at h
    · rename_i h1
      injection h with h
      subst h
      exact pparse_wf hs _ _ _ _ h1
    · cases h
  · cases h
theorem small_of_data {cons : List Int} (h : dataB cons = true) : ∀ n ∈ cons, 0 ≤ n ∧ n ≤ 2 := by
  unfold dataB at h
  simp only [Bool.and_eq_true, decide_eq_true_eq, Bool.not_eq_true', List.any_eq_false] at h
  intro n hn
  have := h.2.2 n hn
  simp [consB] at this
  omega
theorem valOf_wf {cons : List Int} {v : List Int} {t : Pt} (h : valOf cons v = some t) : t.wf cons ∧ t.val := by
  unfold valOf at h
  split at h
  · rename_i hd
    refine ⟨pof_wf (small_of_data hd.1) h, ?_⟩
    unfold pof at h
    split at h
    · split at h
      · rename_i h1
        injection h with h
        subst h
        refine (pparse_val _ _ _ _ ?_ h1).1
        intro x hx
        obtain ⟨n, _, rfl⟩ := List.mem_map.mp hx
        rfl
      · cases h
    · cases h
  · cases h
theorem pofs_wf {cons : List Int} (hs : ∀ n ∈ cons, 0 ≤ n ∧ n ≤ 2) : ∀ {ls : List (List S139)} {ts : List Pt}, pofs cons ls = some ts → ∀ t ∈ ts, t.wf cons
  | [], ts, h => by simp [pofs] at h; subst h; simp
  | l :: ls, ts, h => by
    simp only [pofs] at h
    split at h
    · cases h
    · rename_i h1
      split at h
      · cases h
      · rename_i h2
        obtain rfl := Option.some.inj h
        intro t ht
        rcases List.mem_cons.1 ht with rfl | ht
        · exact pof_wf hs h1
        · exact pofs_wf hs h2 t ht
theorem rulesV_wf {cons : List Int} {ls : List (List S139)} {ts : List Pt} (h : rulesV cons ls = some ts) : (∀ t ∈ ts, t.wf cons) ∧ ts.length ≤ 8 := by
  unfold rulesV at h
  split at h
  · rename_i hd
    exact ⟨pofs_wf (small_of_data hd.1) h, by rw [pofs_len h]; exact hd.2⟩
  · cases h

/-- The first that a value fits. -/
def firstOf (v : Pt) : List Pt → Int → Int
  | [], _ => -1
  | p :: ps, i => if p.takes v = true then i else firstOf v ps (i + 1)
def fmOf (cons : List Int) (rs : List (List S139)) (v : List Int) : Int × Bool := match rulesV cons rs, valOf cons v with
  | some ts, some x => (firstOf x ts 0, true)
  | _, _ => (0, false)

set_option maxRecDepth 100000 in
theorem clo66_calls (p v : Pt) (gp gv g : Nat) (S S' : Nat → Prop) (w : World) (hp : PAt S w gp p) (hv : PAt S' w gv v) (hf : p.fits v) (hg : w.heap[g]? = some (.cells #[ptr gv] 78 (0, 0))) :
    Calls Try.prog 66 #[ptr gp, ptr g] w fun e w' => e = .returned (.bool (p.takes v)) ∧ Below w.heap.size w w' := by
  have c0 : w.cell? ⟨g, 0, none⟩ = some (ptr gv) := (blk_cell hg 0).trans rfl
  have C := Lib.hid (takes_calls p v gp gv S S' w hp hv hf)
  unfold ptr at c0 C ⊢
  clear hp hv hf hg
  go_enter Try.func66, Try.ntmps66
  go_wp2_with (go_at_call 67; (with_reducible refine C.out.mono ?_); rintro e w2 ⟨rfl, hb2⟩)
  go_ret
  exact ⟨rfl, hb2⟩

set_option maxRecDepth 100000 in
set_option maxHeartbeats 2000000 in
theorem indexPat_calls (ts : List Pt) (v : Pt) (b gv g : Nat) (gs : List Nat) (S S' : Nat → Prop) (w : World) (hn : ts.length ≤ 1000) (hrow : PtrRow S w (some ⟨b, 0, none⟩) gs) (hl : QAt S w gs ts) (hv : PAt S' w gv v) (hf : ∀ t ∈ ts, t.fits v) (hg : w.heap[g]? = some (.cells #[ptr gv] 78 (0, 0))) :
    Calls Try.prog 65 #[.slice (some ⟨b, 0, none⟩) ts.length ts.length, .func (.func 66) #[] #[ptr g]] w fun e w' => e = .returned (.int .i64 (firstOf v ts 0)) ∧ Below w.heap.size w w' := by
  have HRow := Lib.hid hrow
  have HL := Lib.hid hl
  have HV := Lib.hid hv
  have HF := Lib.hid hf
  have HG := Lib.hid hg
  clear hrow hl hv hf hg
  unfold ptr
  go_enter Try.func65, Try.ntmps65
  go_wp2
  go_loopw [5, 8] (fun v5 v8 wr => ∃ i : Nat, i ≤ ts.length ∧ v8 = .int .i64 i ∧ Hid (firstOf v ts 0 = firstOf v (ts.drop i) i) ∧ Below w.heap.size w wr) (fun _ v8 _ => ts.length - (intOf v8).toNat)
  case atStart => exact ⟨0, Nat.zero_le _, rfl, Lib.hid (by simp), Below.refl _ _⟩
  case round =>
    obtain ⟨i, hi, rfl, HT, HB⟩ := hrel
    have HB1 := Lib.hid HB
    by_cases hlt : i < ts.length
    · obtain ⟨k, hk⟩ : ∃ k, ts[i]? = some k := ⟨ts[i], by simp [hlt]⟩
      obtain ⟨g1, hg1, hP⟩ := QAt.get HL.out hk
      obtain ⟨ad, hA, _, hcell⟩ := HRow.out i g1 hg1
      injection hA with hA
      subst hA
      rw [add_plain] at hcell
      have x1 : wr.cell? ⟨b, i, none⟩ = some (ptr g1) := (HB.cell (World.block_lt_of_cell? w _ hcell)).trans hcell
      have hcall := clo66_calls k v g1 gv g S S' wr (hP.below HB) (HV.out.below HB) (HF.out k (List.mem_of_getElem? hk)) ((HB.block g (blk_lt HG.out)).trans HG.out)
      unfold ptr at x1 hcall
      have hdrop : ts.drop i = k :: ts.drop (i + 1) := by
        rw [List.drop_eq_getElem_cons hlt]
        rw [List.getElem?_eq_getElem hlt] at hk
        injection hk with hk
        rw [hk]
      have HD := Lib.hid hdrop
      clear hk hg1 hP hcell HB hdrop
      cases ht : k.takes v with
      | true =>
        rw [ht] at hcall
        have C66 := Lib.hid hcall
        have HTV := Lib.hid ht
        clear hcall ht
        go_wp2_with (go_at_call 66; (with_reducible refine C66.out.mono ?_); rintro e w2 ⟨rfl, hb2⟩; have HB2 := Lib.hid (below_step HB1.out hb2); clear hb2)
        go_ret
        exact ⟨by rw [HT.out, HD.out]; simp only [firstOf]; rw [if_pos HTV.out]; rfl, HB2.out⟩
      | false =>
        rw [ht] at hcall
        have C66 := Lib.hid hcall
        have HTV := Lib.hid ht
        clear hcall ht
        go_wp2_with (go_at_call 66; (with_reducible refine C66.out.mono ?_); rintro e w2 ⟨rfl, hb2⟩; have HB2 := Lib.hid (below_step HB1.out hb2); clear hb2)
        go_roundw
        case rel => exact ⟨i + 1, by omega, by go_num, Lib.hid (by rw [HT.out, HD.out]; simp only [firstOf]; rw [if_neg (by rw [HTV.out]; simp)]; rfl), HB2.out⟩
        case measure => simp [intOf]; omega
    · obtain rfl : i = ts.length := by omega
      clear HB
      go_wp2
      go_ret
      exact ⟨by rw [HT.out, List.drop_eq_nil_of_le (Nat.le_refl _)]; simp [firstOf], HB1.out⟩

set_option maxRecDepth 100000 in
set_option maxHeartbeats 2000000 in
theorem FirstMatch_calls (cons : List Int) (Ad : Option Addr) (cd : Nat) (rs : List (List S139)) (A : Option Addr) (c : Nat) (v : List Int) (A2 : Option Addr) (c2 : Nat) (w : World) (hrd : Kd.C (Kd.int .i64) w Ad cons.length cons) (hcd : cons.length ≤ cd) (hr : Kd.C (Kd.slice 139 k139) w A rs.length rs) (hc : rs.length ≤ c) (hr2 : Kd.C (Kd.int .i64) w A2 v.length v) (hc2 : v.length ≤ c2) :
    Calls Try.prog 28 #[.agg #[.slice Ad cons.length cd], .slice A rs.length c, .slice A2 v.length c2] w fun e w' => e = .returned (.tuple #[.int .i64 (fmOf cons rs v).1, .bool (fmOf cons rs v).2]) ∧ Below w.heap.size w w' := by
  have HRD := Lib.hid hrd
  have HR := Lib.hid hr
  have HR2 := Lib.hid hr2
  clear hrd hr hr2
  cases hq : rulesV cons rs with
  | none =>
    have e : fmOf cons rs v = (0, false) := by unfold fmOf; rw [hq]
    rw [e]
    have HQ := Lib.hid hq
    clear hq e
    cases hv : valOf cons v with
    | none =>
      have HV := Lib.hid hv
      clear hv
      go_enter Try.func28, Try.ntmps28
      go_wp2_with (first
        | (go_at_call 62; refine (rulesOf_calls cons Ad cd rs A c _ (Kd.C_below HRD.out (below_alloc (Below.refl _ _) _)) hcd (Kd.C_below HR.out (below_alloc (Below.refl _ _) _)) hc).mono ?_; rw [HQ.out]; rintro e w1 ⟨hb, rfl⟩; have HB := Lib.hid (show Below w.heap.size w w1 from below_step (below_alloc (Below.refl _ _) _) hb); have cx : w1.cell? ⟨w.heap.size, 0, none⟩ = some (.slice Ad cons.length cd) := (blk_cell ((hb.block _ (by simp)).trans (blk_new w _)) 0).trans rfl; clear hb)
        | (go_at_call 58; refine (valueOf_calls cons Ad cd v A2 c2 _ (Kd.C_below HRD.out HB.out) hcd (Kd.C_below HR2.out HB.out) hc2).mono ?_; rw [HV.out]; rintro e w2 ⟨hb2, rfl⟩; have HB2 := Lib.hid (below_step HB.out hb2); clear hb2))
      go_ret2
      exact ⟨rfl, by repeat (first | exact HB2.out | apply below_drew1 | apply below_alloc)⟩
    | some x =>
      have HV := Lib.hid hv
      clear hv
      go_enter Try.func28, Try.ntmps28
      go_wp2_with (first
        | (go_at_call 62; refine (rulesOf_calls cons Ad cd rs A c _ (Kd.C_below HRD.out (below_alloc (Below.refl _ _) _)) hcd (Kd.C_below HR.out (below_alloc (Below.refl _ _) _)) hc).mono ?_; rw [HQ.out]; rintro e w1 ⟨hb, rfl⟩; have HB := Lib.hid (show Below w.heap.size w w1 from below_step (below_alloc (Below.refl _ _) _) hb); have cx : w1.cell? ⟨w.heap.size, 0, none⟩ = some (.slice Ad cons.length cd) := (blk_cell ((hb.block _ (by simp)).trans (blk_new w _)) 0).trans rfl; clear hb)
        | (go_at_call 58; refine (valueOf_calls cons Ad cd v A2 c2 _ (Kd.C_below HRD.out HB.out) hcd (Kd.C_below HR2.out HB.out) hc2).mono ?_; rw [HV.out]; rintro e w2 ⟨hb2, g, rfl, hg⟩; unfold ptr; have HB2 := Lib.hid (below_step HB.out hb2); clear hb2))
      go_ret2
      exact ⟨rfl, by repeat (first | exact HB2.out | apply below_drew1 | apply below_alloc)⟩
  | some ts =>
    cases hv : valOf cons v with
    | none =>
      have e : fmOf cons rs v = (0, false) := by unfold fmOf; rw [hq, hv]
      rw [e]
      have HQ := Lib.hid hq
      have HV := Lib.hid hv
      clear hv hq e
      go_enter Try.func28, Try.ntmps28
      go_wp2_with (first
        | (go_at_call 62; refine (rulesOf_calls cons Ad cd rs A c _ (Kd.C_below HRD.out (below_alloc (Below.refl _ _) _)) hcd (Kd.C_below HR.out (below_alloc (Below.refl _ _) _)) hc).mono ?_; rw [HQ.out]; rintro e w1 ⟨hb, b, gs, rfl, hrow, hl⟩; have HB := Lib.hid (show Below w.heap.size w w1 from below_step (below_alloc (Below.refl _ _) _) hb); have cx : w1.cell? ⟨w.heap.size, 0, none⟩ = some (.slice Ad cons.length cd) := (blk_cell ((hb.block _ (by simp)).trans (blk_new w _)) 0).trans rfl; clear hb hrow hl)
        | (go_at_call 58; refine (valueOf_calls cons Ad cd v A2 c2 _ (Kd.C_below HRD.out HB.out) hcd (Kd.C_below HR2.out HB.out) hc2).mono ?_; rw [HV.out]; rintro e w2 ⟨hb2, rfl⟩; have HB2 := Lib.hid (below_step HB.out hb2); clear hb2))
      go_ret2
      exact ⟨rfl, by repeat (first | exact HB2.out | apply below_drew1 | apply below_alloc)⟩
    | some x =>
      have e : fmOf cons rs v = (firstOf x ts 0, true) := by unfold fmOf; rw [hq, hv]
      rw [e]
      have hfit : ∀ t ∈ ts, t.fits x := fun t ht => wf_fits cons t x ((rulesV_wf hq).1 t ht) (valOf_wf hv).1 (valOf_wf hv).2
      have hlen := (rulesV_wf hq).2
      have HQ := Lib.hid hq
      have HV := Lib.hid hv
      have HF := Lib.hid hfit
      clear hv hq e hfit
      go_enter Try.func28, Try.ntmps28
      go_wp2_with (first
        | (go_at_call 62; refine (rulesOf_calls cons Ad cd rs A c _ (Kd.C_below HRD.out (below_alloc (Below.refl _ _) _)) hcd (Kd.C_below HR.out (below_alloc (Below.refl _ _) _)) hc).mono ?_; rw [HQ.out]; rintro e w1 ⟨hb, b, gs, rfl, hrow, hl⟩; have HB := Lib.hid (show Below w.heap.size w w1 from below_step (below_alloc (Below.refl _ _) _) hb); have cx : w1.cell? ⟨w.heap.size, 0, none⟩ = some (.slice Ad cons.length cd) := (blk_cell ((hb.block _ (by simp)).trans (blk_new w _)) 0).trans rfl; have HROW := Lib.hid hrow; have HL := Lib.hid hl; clear hb hrow hl)
        | (go_at_call 58; refine (valueOf_calls cons Ad cd v A2 c2 _ (Kd.C_below HRD.out HB.out) hcd (Kd.C_below HR2.out HB.out) hc2).mono ?_; rw [HV.out]; rintro e w2 ⟨hb2, g, rfl, hg⟩; unfold ptr; have HB12 := Lib.hid hb2; have HB2 := Lib.hid (below_step HB.out hb2); have HX := Lib.hid hg; clear hb2 hg)
        | (go_at_call 65; refine (indexPat_calls ts x b g w2.heap.size gs _ _ _ (by omega) (PtrRow.below (HROW.out.below HB12.out) (below_alloc (Below.refl _ _) _)) (QAt.below (HL.out.below HB12.out) (below_alloc (Below.refl _ _) _)) (HX.out.below (below_alloc (Below.refl _ _) _)) HF.out (blk_new w2 _)).mono ?_; rintro e w3 ⟨rfl, hb3⟩))
      go_ret2
      exact ⟨rfl, below_step (below_alloc HB2.out _) hb3⟩
end Go.Proofs.Ytjobjielgiojhaa.PAll
