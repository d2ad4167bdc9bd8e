/- redex, normal and IsNormal by their contracts. -/
import Derived.Test.YtgoiifpimpnlpaaHhanded
import Derived.BigQuiet
namespace Go.Proofs.Ytgoiifpimpnlpaa.PAll
open Go.RowKit Go.Proofs.YtgoiifpimpnlpaaW.PrintWords Go.Proofs.YtgoiifpimpnlpaaW.PrintLast Go.Proofs.YtgoiifpimpnlpaaW.PrintMore
set_option linter.unusedVariables false
set_option linter.unusedSimpArgs false

mutual
/-- Numbers are within their bounds, everywhere. -/
def Tm.wn : Tm → Prop
  | .mk k n ks => (k = 2 → -1000000 ≤ n ∧ n ≤ 1000000) ∧ wns ks
def wns : List Tm → Prop
  | [] => True
  | t :: ts => t.wn ∧ wns ts
end
theorem wns_get {ts : List Tm} (h : wns ts) : ∀ t ∈ ts, t.wn := by
  induction ts with
  | nil => intro t ht; cases ht
  | cons a ts ih =>
    simp only [wns] at h
    intro t ht
    rcases List.mem_cons.1 ht with rfl | ht
    · exact h.1
    · exact ih h.2 t ht

def Tm.kd : Tm → Int
  | .mk k _ _ => k
def Tm.nu : Tm → Int
  | .mk _ n _ => n
theorem TAt.kd_cell {S : Nat → Prop} {w : World} {g : Nat} {t : Tm} (h : TAt S w g t) : w.cell? ⟨g, 0, none⟩ = some (.int .i64 t.kd) := by
  cases t with | mk k n ks => obtain ⟨A, c, gs, _, h0, _⟩ := h.cells; exact h0
theorem TAt.nu_cell {S : Nat → Prop} {w : World} {g : Nat} {t : Tm} (h : TAt S w g t) : w.cell? ⟨g, 1, none⟩ = some (.int .i64 t.nu) := by
  cases t with | mk k n ks => obtain ⟨A, c, gs, _, _, h1, _⟩ := h.cells; exact h1
theorem Tm.wn_nu {t : Tm} (h : t.wn) (hk : t.kd = 2) : -1000000 ≤ t.nu ∧ t.nu ≤ 1000000 := by
  cases t with | mk k n ks => simp only [Tm.wn] at h; exact h.1 hk

theorem within_q (n lo hi : Int) (w : World) : Calls Try.prog 53 #[.int .i64 n, .int .i64 lo, .int .i64 hi] w fun e w' => e = .returned (.bool (decide (lo ≤ n ∧ n ≤ hi))) ∧ w' = w := (within_calls n lo hi w).mono fun _ _ h => ⟨h.1, h.2.symm⟩

def addB (a b : Tm) : Bool := decide (a.kd = 2) && (decide (b.kd = 2) && decide (-1000000 ≤ a.nu + b.nu ∧ a.nu + b.nu ≤ 1000000))
def redexB (k : Int) (ks : List Tm) : Bool := if k = 7 then true else if k = 4 then (ks[0]?.map (fun a => a.kd == 3)).getD false else if k = 6 then (ks[0]?.map (fun a => a.kd == 2)).getD false else if k = 5 then ((ks[0]?.bind fun a => ks[1]?.map (addB a))).getD false else false

set_option maxRecDepth 100000 in
set_option maxHeartbeats 2000000 in
theorem redex_calls (S : Nat → Prop) (k n : Int) (ks : List Tm) (g : Nat) (w : World) (hwf : (Tm.mk k n ks).wf) (hwn : (Tm.mk k n ks).wn) (hT : TAt S w g (.mk k n ks)) :
    Calls Try.prog 97 #[ptr g] w fun e w' => e = .returned (.bool (redexB k ks)) ∧ Below w.heap.size w w' := by
  simp only [Tm.wf] at hwf
  simp only [Tm.wn] at hwn
  obtain ⟨hk, hws⟩ := hwf
  have hwns := hwn.2
  obtain ⟨A, c, gs, hc, c0, c1, c2, c3, hrow, hl⟩ := hT.cells
  unfold ptr
  clear hT hwn
  by_cases h7 : k = 7
  · subst h7
    have e : redexB 7 ks = true := by simp [redexB]
    rw [e]
    clear hl hrow hk e hws hwns
    go_enter Try.func97, Try.ntmps97
    go_wp2
    go_ret
    exact ⟨rfl, Below.refl _ _⟩
  have b7 : (k == 7) = false := by simp [h7]
  by_cases h4 : k = 4
  · subst h4
    have hk2 : ks.length = 2 := by simp [arI] at hk; omega
    obtain ⟨a, ha⟩ : ∃ a, ks[0]? = some a := ⟨ks[0], by simp [hk2]⟩
    obtain ⟨ga, hga, hTa⟩ := LAt.get hl ha
    obtain ⟨ad, rfl, hSa, ca⟩ := hrow 0 ga hga
    have HE := Lib.hid (show redexB 4 ks = (a.kd == 3) by simp [redexB, ha])
    have ck := hTa.kd_cell
    unfold ptr at ca
    rw [show ad.add 0 = ad by simp [Addr.add]] at ca
    clear hl hrow hk ha hga hTa hSa hws hwns
    go_enter Try.func97, Try.ntmps97
    go_wp2
    go_ret
    exact ⟨by rw [HE.out]; first | done | rfl, Below.refl _ _⟩
  have b4 : (k == 4) = false := by simp [h4]
  by_cases h6 : k = 6
  · subst h6
    have hk2 : ks.length = 3 := by simp [arI] at hk; omega
    obtain ⟨a, ha⟩ : ∃ a, ks[0]? = some a := ⟨ks[0], by simp [hk2]⟩
    obtain ⟨ga, hga, hTa⟩ := LAt.get hl ha
    obtain ⟨ad, rfl, hSa, ca⟩ := hrow 0 ga hga
    have HE := Lib.hid (show redexB 6 ks = (a.kd == 2) by simp [redexB, ha])
    have ck := hTa.kd_cell
    unfold ptr at ca
    rw [show ad.add 0 = ad by simp [Addr.add]] at ca
    clear hl hrow hk ha hga hTa hSa hws hwns
    go_enter Try.func97, Try.ntmps97
    go_wp2
    go_ret
    exact ⟨by rw [HE.out]; first | done | rfl, Below.refl _ _⟩
  have b6 : (k == 6) = false := by simp [h6]
  by_cases h5 : k = 5
  · subst h5
    have hk2 : ks.length = 2 := by simp [arI] at hk; omega
    obtain ⟨a, ha⟩ : ∃ a, ks[0]? = some a := ⟨ks[0], by simp [hk2]⟩
    obtain ⟨b, hb⟩ : ∃ b, ks[1]? = some b := ⟨ks[1], by simp [hk2]⟩
    obtain ⟨ga, hga, hTa⟩ := LAt.get hl ha
    obtain ⟨gb, hgb, hTb⟩ := LAt.get hl hb
    obtain ⟨ad, rfl, hSa, ca⟩ := hrow 0 ga hga
    obtain ⟨ad', e', hSb, cb⟩ := hrow 1 gb hgb
    obtain rfl : ad = ad' := by injection e'
    have HE := Lib.hid (show redexB 5 ks = addB a b by simp [redexB, ha, hb])
    have cka := hTa.kd_cell
    have ckb := hTb.kd_cell
    have cna := hTa.nu_cell
    have cnb := hTb.nu_cell
    have wa := Tm.wn_nu (wns_get hwns a (List.mem_of_getElem? ha))
    have wb := Tm.wn_nu (wns_get hwns b (List.mem_of_getElem? hb))
    unfold ptr at ca cb
    rw [show ad.add 0 = ad by simp [Addr.add]] at ca
    have cb : w.cell? ⟨ad.block, ad.off + 1, none⟩ = some (.pointer (some ⟨gb, 0, none⟩)) := cb
    rw [HE.out]
    clear hl hrow hk ha hb hga hgb hTa hTb hSa hSb hws hwns HE e'
    by_cases ka : a.kd = 2
    · rw [ka] at cka
      by_cases kb : b.kd = 2
      · rw [kb] at ckb
        have wa := wa ka
        have wb := wb kb
        obtain ⟨na, hna⟩ : ∃ x, x = a.nu := ⟨_, rfl⟩
        obtain ⟨nb, hnb⟩ : ∃ x, x = b.nu := ⟨_, rfl⟩
        have HE := Lib.hid (show addB a b = (decide (-1000000 ≤ na + nb) && decide (na + nb ≤ 1000000)) by simp [addB, ka, kb, hna, hnb])
        rw [← hna] at cna wa
        rw [← hnb] at cnb wb
        clear ka kb hna hnb
        go_enter Try.func97, Try.ntmps97
        go_wp2
        go_quiet (fail)
        all_goals go_wp2
        all_goals go_big_quiet (first | (go_at_call 53; exact (within_q _ _ _ _).mono (fun _ _ h => ⟨h.1, _, h.2⟩)))
        all_goals go_wp2
        all_goals go_ret
        all_goals exact ⟨by rw [HE.out]; first | done | rfl, by repeat (first | exact Below.refl _ _ | apply pw_below_drewN | apply below_drew1)⟩
      · have HE := Lib.hid (show addB a b = false by simp [addB, kb])
        have kb2 : (b.kd == 2) = false := by simp [kb]
        rw [HE.out]
        clear ka kb wa wb HE
        go_enter Try.func97, Try.ntmps97
        go_wp2
        go_quiet (fail)
        all_goals go_wp2
        all_goals (go_quiet (fail))
        all_goals go_wp2
        all_goals go_ret
        all_goals exact ⟨rfl, by repeat (first | exact Below.refl _ _ | apply pw_below_drewN | apply below_drew1)⟩
    · have HE := Lib.hid (show addB a b = false by simp [addB, ka])
      have ka2 : (a.kd == 2) = false := by simp [ka]
      rw [HE.out]
      clear ka wa wb HE
      go_enter Try.func97, Try.ntmps97
      go_wp2
      go_quiet (fail)
      all_goals go_wp2
      all_goals (go_quiet (fail))
      all_goals go_wp2
      all_goals go_ret
      all_goals exact ⟨rfl, by repeat (first | exact Below.refl _ _ | apply pw_below_drewN | apply below_drew1)⟩
  have b5 : (k == 5) = false := by simp [h5]
  have e : redexB k ks = false := by simp [redexB, h4, h5, h6, h7]
  rw [e]
  clear hl hrow hk e hws hwns h4 h5 h6 h7
  go_enter Try.func97, Try.ntmps97
  go_wp2
  go_ret
  exact ⟨rfl, Below.refl _ _⟩

mutual
def normalB : Tm → Bool
  | .mk k n ks => !redexB k ks && !unNormal ks
def unNormal : List Tm → Bool
  | [] => false
  | t :: ts => !normalB t || unNormal ts
end
theorem unNormal_any (ts : List Tm) : unNormal ts = ts.any (fun t => !normalB t) := by
  induction ts with
  | nil => rfl
  | cons t ts ih => simp [unNormal, ih]
theorem normalB_mk (k n : Int) (ks : List Tm) : normalB (.mk k n ks) = (!redexB k ks && !ks.any (fun t => !normalB t)) := by rw [← unNormal_any]; simp [normalB]

/-- What is asked of a part. -/
def Nrm (t : Tm) : Prop := ∀ (S : Nat → Prop) (g : Nat) (w : World), t.wf → t.wn → TAt S w g t → Calls Try.prog 58 #[ptr g] w fun e w' => e = .returned (.bool (normalB t)) ∧ Below w.heap.size w w'

theorem notNormal_calls (t : Tm) (ht : Nrm t) (S : Nat → Prop) (g : Nat) (w : World) (hf : t.wf) (hn : t.wn) (hT : TAt S w g t) : Calls Try.prog 98 #[.pointer (some ⟨g, 0, none⟩)] w fun e w' => e = .returned (.bool (!normalB t)) ∧ Below w.heap.size w w' := by
  have H := Lib.hid ht
  have HF := Lib.hid hf
  have HN := Lib.hid hn
  have HT := Lib.hid hT
  clear ht hf hn hT
  go_enter Try.func98, Try.ntmps98
  go_wp2_with (go_at_call 58; refine (H.out S g _ HF.out HN.out HT.out).mono ?_; rintro e w' ⟨rfl, hb⟩)
  go_ret
  exact ⟨rfl, hb⟩

set_option maxRecDepth 100000 in
set_option maxHeartbeats 1000000 in
theorem indexTerm_calls (ks : List Tm) (hks : ks.length ≤ 3) (ih : ∀ t ∈ ks, Nrm t) (S : Nat → Prop) (A : Option Addr) (c : Nat) (gs : List Nat) (w : World) (hc : ks.length ≤ c) (hws : wfs ks) (hwn : wns ks) (hrow : PtrRow S w A gs) (hl : LAt S w gs ks) :
    Calls Try.prog 113 #[.slice A ks.length c, .func (.func 98) #[] #[]] w fun e w' => (∃ n : Int, e = .returned (.int .i64 n) ∧ (0 ≤ n ↔ ks.any (fun x => !normalB x) = true)) ∧ Below w.heap.size w w' := by
  have HL := Lib.hid hl
  have HROW := Lib.hid hrow
  have IH := Lib.hid ih
  have HWS := Lib.hid hws
  have HWN := Lib.hid hwn
  clear hl hrow ih hws hwn
  go_enter Try.func113, Try.ntmps113
  go_wp2
  go_loopw [5, 8] (fun v5 v8 wr => ∃ k : Nat, k ≤ ks.length ∧ v8 = .int .i64 k ∧ Hid (∀ x ∈ ks.take k, normalB x = true) ∧ Below w.heap.size w wr) (fun _ v8 _ => ks.length - (intOf v8).toNat)
  case atStart => exact ⟨0, Nat.zero_le _, rfl, Lib.hid (by simp), Below.refl _ _⟩
  case round =>
    obtain ⟨i, hi, rfl, HA, hBw⟩ := hrel
    by_cases hlt : i < ks.length
    · obtain ⟨t, ht⟩ : ∃ t, ks[i]? = some t := ⟨ks[i], by simp [hlt]⟩
      obtain ⟨q, hq, hT⟩ := LAt.get HL.out ht
      obtain ⟨ad, rfl, hSa, hcell⟩ := HROW.out i q hq
      have hcell := (hBw.cell (World.block_lt_of_cell? w _ hcell)).trans hcell
      have HX := Lib.hid ht
      have HT := Lib.hid hT
      have HI := Lib.hid (IH.out t (List.mem_of_getElem? ht))
      have HW := Lib.hid (wfs_get HWS.out t (List.mem_of_getElem? ht))
      have HN := Lib.hid (wns_get HWN.out t (List.mem_of_getElem? ht))
      unfold ptr at hcell
      clear hT ht hq hSa
      cases hb : normalB t with
      | true =>
        have HBX := Lib.hid hb
        clear hb
        go_wp2_with (go_at_call 98; refine (notNormal_calls t HI.out S q _ HW.out HN.out (HT.out.below hBw)).mono ?_; rw [HBX.out]; rintro e w' ⟨rfl, hbw⟩)
        go_roundw
        case rel =>
          refine ⟨i + 1, by omega, by go_num, Lib.hid ?_, below_step hBw hbw⟩
          intro y hy
          rw [List.take_add_one, HX.out] at hy
          simp at hy
          rcases hy with hy | rfl
          · exact HA.out y hy
          · exact HBX.out
        case measure => simp [intOf]; omega
      | false =>
        have HBX := Lib.hid hb
        clear hb
        go_wp2_with (go_at_call 98; refine (notNormal_calls t HI.out S q _ HW.out HN.out (HT.out.below hBw)).mono ?_; rw [HBX.out]; rintro e w' ⟨rfl, hbw⟩)
        go_ret
        refine ⟨⟨i, rfl, ?_⟩, below_step hBw hbw⟩
        have : t ∈ ks := List.mem_of_getElem? HX.out
        simp only [List.any_eq_true]
        exact ⟨fun _ => ⟨t, this, by simp [HBX.out]⟩, fun _ => by omega⟩
    · have : i = ks.length := by omega
      subst this
      go_wp2
      go_ret
      refine ⟨⟨-1, rfl, ?_⟩, hBw⟩
      have := HA.out
      rw [List.take_length] at this
      simp only [List.any_eq_true]
      constructor
      · intro h; omega
      · rintro ⟨x, hx, h⟩
        rw [this x hx] at h
        cases h

theorem containsTerm_calls (ks : List Tm) (hks : ks.length ≤ 3) (ih : ∀ t ∈ ks, Nrm t) (S : Nat → Prop) (A : Option Addr) (c : Nat) (gs : List Nat) (w : World) (hc : ks.length ≤ c) (hws : wfs ks) (hwn : wns ks) (hrow : PtrRow S w A gs) (hl : LAt S w gs ks) :
    Calls Try.prog 70 #[.slice A ks.length c, .func (.func 98) #[] #[]] w fun e w' => e = .returned (.bool (ks.any (fun x => !normalB x))) ∧ Below w.heap.size w w' := by
  have HL := Lib.hid hl
  have HROW := Lib.hid hrow
  have IH := Lib.hid ih
  have HWS := Lib.hid hws
  have HWN := Lib.hid hwn
  clear hl hrow ih hws hwn
  cases hb : ks.any (fun x => !normalB x) with
  | true =>
    have H := Lib.hid hb
    clear hb
    go_enter Try.func70, Try.ntmps70
    go_wp2_with (go_at_call 113; refine (indexTerm_calls ks hks IH.out S A c gs _ hc HWS.out HWN.out HROW.out HL.out).mono ?_; rw [H.out]; rintro e w' ⟨⟨n, rfl, hn⟩, hbw⟩; have hn0 : 0 ≤ n := hn.2 rfl; clear hn)
    go_ret
    exact ⟨by simp [hn0], hbw⟩
  | false =>
    have H := Lib.hid hb
    clear hb
    go_enter Try.func70, Try.ntmps70
    go_wp2_with (go_at_call 113; refine (indexTerm_calls ks hks IH.out S A c gs _ hc HWS.out HWN.out HROW.out HL.out).mono ?_; rw [H.out]; rintro e w' ⟨⟨n, rfl, hn⟩, hbw⟩; have hn0 : ¬ 0 ≤ n := fun z => Bool.noConfusion (hn.1 z); clear hn)
    go_ret
    exact ⟨by simp; omega, hbw⟩

set_option maxRecDepth 100000 in
set_option maxHeartbeats 1000000 in
theorem normal_calls (t : Tm) : Nrm t := by
  induction t using Tm.ind with
  | h k n ks ih =>
  intro S g w hwf hwn hT
  have HWF := Lib.hid hwf
  have HWN := Lib.hid hwn
  have HTT := Lib.hid hT
  simp only [Tm.wf] at hwf
  simp only [Tm.wn] at hwn
  have hkl : ks.length ≤ 3 := by have := arI_bd k; omega
  have HWS := Lib.hid hwf.2
  have HWNS := Lib.hid hwn.2
  obtain ⟨A, c, gs, hc, c0, c1, c2, c3, hrow, hl⟩ := hT.cells
  have HE := Lib.hid (normalB_mk k n ks)
  have HL := Lib.hid hl
  have HROW := Lib.hid hrow
  have IH := Lib.hid ih
  have kk : ∀ w1, Below w.heap.size w w1 → w1.cell? ⟨g, 2, none⟩ = some (.slice A ks.length c) := fun w1 hb => (hb.cell (World.block_lt_of_cell? w _ c2)).trans c2
  unfold ptr
  rw [HE.out]
  clear ih hT hwf hwn hl hrow
  cases hr : redexB k ks with
  | true =>
    have HR := Lib.hid hr
    clear hr HE
    go_enter Try.func58, Try.ntmps58
    go_wp2_with fail
    refine (redex_calls S k n ks g _ HWF.out HWN.out HTT.out).mono ?_
    rw [HR.out]
    rintro e w1 ⟨rfl, hb1⟩
    go_wp2
    go_ret
    exact ⟨rfl, hb1⟩
  | false =>
    have HR := Lib.hid hr
    clear hr HE
    go_enter Try.func58, Try.ntmps58
    go_wp2_with fail
    refine (redex_calls S k n ks g _ HWF.out HWN.out HTT.out).mono ?_
    rw [HR.out]
    rintro e w1 ⟨rfl, hb1⟩
    have k2 := kk w1 hb1
    go_wp2_with fail
    refine (containsTerm_calls ks hkl IH.out S A c gs _ hc HWS.out HWNS.out (HROW.out.below hb1) (HL.out.below hb1)).mono ?_
    rintro e w2 ⟨rfl, hb2⟩
    go_wp2
    go_ret
    exact ⟨by simp, below_step hb1 hb2⟩

theorem mkids_wn {f : List S66 → Option (Tm × List S66)} (hf : ∀ l t r, f l = some (t, r) → t.wn) : ∀ m l ts r, mkids f m l = some (ts, r) → wns ts := by
  intro m
  induction m with
  | zero => intro l ts r h; simp [mkids] at h; obtain ⟨rfl, rfl⟩ := h; simp [wns]
  | succ m ih =>
    intro l ts r h
    simp only [mkids] at h
    cases h1 : f l with
    | none => rw [h1] at h; simp at h
    | some p =>
      obtain ⟨t, r1⟩ := p
      rw [h1] at h
      simp only at h
      cases h2 : mkids f m r1 with
      | none => rw [h2] at h; simp at h
      | some q =>
        obtain ⟨ts', r2⟩ := q
        rw [h2] at h
        simp at h
        obtain ⟨rfl, rfl⟩ := h
        simp only [wns]
        exact ⟨hf _ _ _ h1, ih _ _ _ h2⟩

theorem mparse_wn : ∀ (k : Nat) (l : List S66) (t : Tm) (r : List S66), mparse k l = some (t, r) → t.wn := by
  intro k
  induction k with
  | zero => intro l t r h; simp [mparse] at h
  | succ k ih =>
    intro l t r h
    cases l with
    | nil => simp [mparse] at h
    | cons x l =>
      simp only [mparse] at h
      split at h
      · rename_i hb
        cases h1 : mkids (mparse k) (arI x.f0).toNat l with
        | none => rw [h1] at h; simp at h
        | some p =>
          obtain ⟨ts, r1⟩ := p
          rw [h1] at h
          simp at h
          obtain ⟨rfl, _⟩ := h
          simp only [Tm.wn]
          refine ⟨fun h2 => ?_, mkids_wn ih _ _ _ _ h1⟩
          unfold cellB at hb
          rw [if_neg (by omega), if_pos h2] at hb
          simpa using hb
      · simp at h

theorem tmof_wn {l : List S66} {t : Tm} (h : tmof l = some t) : t.wn := by
  unfold tmof at h
  split at h
  · split at h
    · rename_i h1; injection h with h; subst h; exact mparse_wn _ _ _ _ h1
    · cases h
  · cases h

/-- What IsNormal answers. -/
def normalOf (l : List S66) : Bool × Bool := match tmof l with
  | none => (false, false)
  | some t => (normalB t, true)

theorem IsNormal_calls (l : List S66) (A : Option Addr) (c : Nat) (w : World) (hr : Kd.C k66 w A l.length l) (hc : l.length ≤ c) :
    Calls Try.prog 23 #[.slice A l.length c] w fun e w' => e = .returned (.tuple #[.bool (normalOf l).1, .bool (normalOf l).2]) ∧ Below w.heap.size w w' := by
  cases hq : tmof l with
  | none =>
    have e : normalOf l = (false, false) := by simp [normalOf, hq]
    rw [e]
    have HQ := Lib.hid hq
    clear hq e
    go_enter Try.func23, Try.ntmps23
    go_wp2_with (go_at_call 49; refine (termOf_calls l A c _ hr hc).mono ?_; rw [HQ.out]; rintro e w1 ⟨hb, rfl⟩)
    go_ret2
    exact ⟨rfl, hb⟩
  | some t =>
    have e : normalOf l = (normalB t, true) := by simp [normalOf, hq]
    rw [e]
    have HW := Lib.hid (tmof_wf hq)
    have HN := Lib.hid (tmof_wn hq)
    have HQ := Lib.hid hq
    clear hq e
    go_enter Try.func23, Try.ntmps23
    go_wp2_with fail
    refine (termOf_calls l A c _ hr hc).mono ?_
    rw [HQ.out]
    rintro e w1 ⟨hb, g, rfl, ha⟩
    have HA := Lib.hid ha
    clear ha
    unfold ptr
    go_wp2_with fail
    refine (normal_calls t _ g _ HW.out HN.out HA.out).mono ?_
    rintro e w2 ⟨rfl, hb2⟩
    go_wp2
    go_ret2
    exact ⟨rfl, below_step hb hb2⟩
end Go.Proofs.Ytgoiifpimpnlpaa.PAll
