/- plain, isHanded and IsHanded by their contracts. -/
import Derived.Test.YtgoiifpimpnlpaaHtermC
namespace Go.Proofs.Ytgoiifpimpnlpaa.PAll
open Go.RowKit Go.Proofs.YtgoiifpimpnlpaaW.PrintWords Go.Proofs.YtgoiifpimpnlpaaW.PrintLast Go.Proofs.YtgoiifpimpnlpaaW.PrintMore
set_option linter.unusedVariables false
set_option linter.unusedSimpArgs false

mutual
/-- As many parts as the kind asks, everywhere. -/
def Tm.wf : Tm → Prop
  | .mk k n ks => arI k = (ks.length : Int) ∧ wfs ks
def wfs : List Tm → Prop
  | [] => True
  | t :: ts => t.wf ∧ wfs ts
end
theorem wfs_get {ts : List Tm} (h : wfs ts) : ∀ t ∈ ts, t.wf := by
  induction ts with
  | nil => intro t ht; cases ht
  | cons a ts ih =>
    simp only [wfs] at h
    intro t ht
    rcases List.mem_cons.1 ht with rfl | ht
    · exact h.1
    · exact ih h.2 t ht

mutual
def plainB : Tm → Bool
  | .mk k n ks => (decide (k = 1) || decide (k = 2) || decide (k = 3)) || (decide (k = 5) && plainAll ks)
def plainAll : List Tm → Bool
  | [] => true
  | t :: ts => plainB t && plainAll ts
end

def okB (k : Int) (t : Tm) (ks : List Tm) : Bool := if k = 7 then false else if k = 4 then (ks[1]?.map plainB).getD false else if k = 5 then plainB t else if k = 6 then (ks[0]?.map plainB).getD false else true
mutual
def handedB : Tm → Bool
  | .mk k n ks => okB k (.mk k n ks) ks && handedAll ks
def handedAll : List Tm → Bool
  | [] => true
  | t :: ts => handedB t && handedAll ts
end
theorem handedAll_append (a b : List Tm) : handedAll (a ++ b) = (handedAll a && handedAll b) := by
  induction a with
  | nil => simp [handedAll]
  | cons t ts ih => simp only [List.cons_append, handedAll, ih, Bool.and_assoc]

set_option maxRecDepth 100000 in
set_option maxHeartbeats 1000000 in
theorem plain_calls (t : Tm) : ∀ (S : Nat → Prop) (g : Nat) (w : World), t.wf → TAt S w g t → Calls Try.prog 95 #[ptr g] w fun e w' => e = .returned (.bool (plainB t)) ∧ Below w.heap.size w w' := by
  induction t using Tm.ind with
  | h k n ks ih =>
  intro S g w hwf hT
  simp only [Tm.wf] at hwf
  obtain ⟨hk, hws⟩ := hwf
  obtain ⟨A, c, gs, hc, c0, c1, c2, c3, hrow, hl⟩ := hT.cells
  unfold ptr
  by_cases h1 : k = 1
  · subst h1
    have e : plainB (.mk 1 n ks) = true := by simp [plainB]
    rw [e]
    clear e hws ih hT hl hrow hk
    go_enter Try.func95, Try.ntmps95
    go_wp2
    go_ret
    exact ⟨rfl, Below.refl _ _⟩
  by_cases h2 : k = 2
  · subst h2
    have e : plainB (.mk 2 n ks) = true := by simp [plainB]
    rw [e]
    clear e hws ih hT hl hrow hk
    go_enter Try.func95, Try.ntmps95
    go_wp2
    go_ret
    exact ⟨rfl, Below.refl _ _⟩
  by_cases h3 : k = 3
  · subst h3
    have e : plainB (.mk 3 n ks) = true := by simp [plainB]
    rw [e]
    clear e hws ih hT hl hrow hk
    go_enter Try.func95, Try.ntmps95
    go_wp2
    go_ret
    exact ⟨rfl, Below.refl _ _⟩
  have b1 : (k == 1) = false := by simp [h1]
  have b2 : (k == 2) = false := by simp [h2]
  have b3 : (k == 3) = false := by simp [h3]
  by_cases h5 : k = 5
  · subst h5
    have hk2 : ks.length = 2 := by simp [arI] at hk; omega
    match ks, hk2 with
    | [a, b], _ =>
      obtain ⟨ga, hga, hTa⟩ := LAt.get (i := 0) hl rfl
      obtain ⟨gb, hgb, hTb⟩ := LAt.get (i := 1) hl rfl
      obtain ⟨ad, rfl, hSa, ca⟩ := hrow 0 ga hga
      obtain ⟨ad', e', hSb, cb⟩ := hrow 1 gb hgb
      obtain rfl : ad = ad' := by injection e'
      have wa := wfs_get hws a (by simp)
      have wb := wfs_get hws b (by simp)
      have e : plainB (.mk 5 n [a, b]) = (plainB a && plainB b) := by simp [plainB, plainAll]
      rw [e]
      have IA := Lib.hid (ih a (by simp))
      have IB := Lib.hid (ih b (by simp))
      have HTA := Lib.hid hTa
      have HTB := Lib.hid hTb
      have WA := Lib.hid wa
      have WB := Lib.hid wb
      unfold ptr at ca cb
      rw [show ad.add 0 = ad by simp [Addr.add]] at ca
      have c2 : w.cell? ⟨g, 2, none⟩ = some (.slice (some ad) 2 c) := c2
      clear e hws ih hT hl hrow hk hTa hTb wa wb hga hgb e' h1 h2 h3 b1 b2 b3
      have ka : ∀ w1, Below w.heap.size w w1 → w1.cell? ⟨g, 2, none⟩ = some (.slice (some ad) 2 c) ∧ w1.cell? ⟨ad.block, ad.off + 1, none⟩ = some (.pointer (some ⟨gb, 0, none⟩)) := fun w1 hb => ⟨(hb.cell (World.block_lt_of_cell? w _ c2)).trans c2, (hb.cell (World.block_lt_of_cell? w _ cb)).trans cb⟩
      cases hpa : plainB a with
      | true =>
        have HPA := Lib.hid hpa
        clear hpa
        go_enter Try.func95, Try.ntmps95
        go_wp2_with fail
        refine (IA.out S ga _ WA.out HTA.out).mono ?_
        rw [HPA.out]
        rintro e w1 ⟨rfl, hb1⟩
        obtain ⟨k2, kb⟩ := ka w1 hb1
        go_wp2_with fail
        refine (IB.out S gb _ WB.out (HTB.out.below hb1)).mono ?_
        rintro e w2 ⟨rfl, hb2⟩
        go_wp2
        go_ret
        exact ⟨by simp, below_step hb1 hb2⟩
      | false =>
        have HPA := Lib.hid hpa
        clear hpa
        go_enter Try.func95, Try.ntmps95
        go_wp2_with fail
        refine (IA.out S ga _ WA.out HTA.out).mono ?_
        rw [HPA.out]
        rintro e w1 ⟨rfl, hb1⟩
        go_wp2
        go_ret
        exact ⟨by simp, hb1⟩
  · have b5 : (k == 5) = false := by simp [h5]
    have e : plainB (.mk k n ks) = false := by simp [plainB, h1, h2, h3, h5]
    rw [e]
    clear e hws ih hT hl hrow hk h1 h2 h3 h5
    go_enter Try.func95, Try.ntmps95
    go_wp2
    go_ret
    exact ⟨rfl, Below.refl _ _⟩


set_option maxRecDepth 100000 in
set_option maxHeartbeats 2000000 in
theorem isHanded_calls (t : Tm) : ∀ (S : Nat → Prop) (g : Nat) (w : World), t.wf → TAt S w g t → Calls Try.prog 56 #[ptr g] w fun e w' => e = .returned (.bool (handedB t)) ∧ Below w.heap.size w w' := by
  induction t using Tm.ind with
  | h k n ks ih =>
  intro S g w hwf hT
  have HWF := Lib.hid hwf
  have HTT := Lib.hid hT
  simp only [Tm.wf] at hwf
  obtain ⟨hk, hws⟩ := hwf
  obtain ⟨A, c, gs, hc, c0, c1, c2, c3, hrow, hl⟩ := hT.cells
  have he : handedB (.mk k n ks) = (okB k (.mk k n ks) ks && handedAll ks) := by simp [handedB]
  obtain ⟨b0, hb0⟩ : ∃ b, b = okB k (.mk k n ks) ks := ⟨_, rfl⟩
  rw [← hb0] at he
  have HE := Lib.hid he
  have HL := Lib.hid hl
  have HROW := Lib.hid hrow
  have IH := Lib.hid ih
  have HWS := Lib.hid hws
  have hkl : ks.length ≤ 3 := by have := arI_bd k; omega
  unfold ptr
  clear he ih hT hws
  by_cases h7 : k = 7
  · subst h7
    have HB0 := Lib.hid (show b0 = false by rw [hb0]; simp [okB])
    clear hl hrow hk hb0
    go_enter Try.func56, Try.ntmps56
    go_wp2
    have hbs : Below w.heap.size w w := Below.refl _ _
    go_loopw [3, 5, 39] (fun v3 v5 v39 wr => ∃ i : Nat, i ≤ ks.length ∧ v39 = .int .i64 i ∧ v3 = .bool (b0 && handedAll (ks.take i)) ∧ Below w.heap.size w wr) (fun _ _ v39 _ => ks.length - (intOf v39).toNat)
    case atStart => exact ⟨0, Nat.zero_le _, rfl, by rw [HB0.out]; simp [handedAll], hbs⟩
    case round =>
      obtain ⟨i, hi, rfl, rfl, hBw⟩ := hrel
      by_cases hlt : i < ks.length
      · obtain ⟨t, ht⟩ : ∃ t, ks[i]? = some t := ⟨ks[i], by simp [hlt]⟩
        obtain ⟨q, hq, hT⟩ := LAt.get HL.out ht
        obtain ⟨ad', eA, hSa, hcell⟩ := HROW.out i q hq
        first | subst eA | (injection eA with eA; subst eA)
        have hcell := (hBw.cell (World.block_lt_of_cell? w _ hcell)).trans hcell
        have hall : (b0 && handedAll (ks.take (i + 1))) = ((b0 && handedAll (ks.take i)) && handedB t) := by rw [List.take_add_one, ht, handedAll_append, Bool.and_assoc]; simp [handedAll]
        have HALL := Lib.hid hall
        have HT := Lib.hid hT
        have HI := Lib.hid (IH.out t (List.mem_of_getElem? ht))
        have HW := Lib.hid (wfs_get HWS.out t (List.mem_of_getElem? ht))
        unfold ptr at hcell
        clear hall hT ht hq hSa
        cases hv : (b0 && handedAll (ks.take i)) with
        | true =>
          have HV := Lib.hid hv
          clear hv
          go_wp2_with fail
          refine (HI.out S q _ HW.out (HT.out.below hBw)).mono ?_
          rintro e w2 ⟨rfl, hb2⟩
          go_wp2
          go_roundw
          case rel => exact ⟨i + 1, by omega, by go_num, by rw [HALL.out, HV.out]; simp, below_step hBw hb2⟩
          case measure => simp [intOf]; omega
        | false =>
          have HV := Lib.hid hv
          clear hv
          go_wp2
          go_roundw
          case rel => exact ⟨i + 1, by omega, by go_num, by rw [HALL.out, HV.out]; simp, hBw⟩
          case measure => simp [intOf]; omega
      · obtain rfl : i = ks.length := by omega
        have htk : ks.take ks.length = ks := List.take_length
        rw [htk]
        clear htk
        go_wp2
        go_ret
        exact ⟨by rw [HE.out]; first | done | rfl, hBw⟩
  have b7 : (k == 7) = false := by simp [h7]
  by_cases h4 : k = 4
  · subst h4
    have hk2 : ks.length = 2 := by simp [arI] at hk; omega
    obtain ⟨a, ha⟩ : ∃ a, ks[1]? = some a := ⟨ks[1], by simp [hk2]⟩
    obtain ⟨ga, hga, hTa⟩ := LAt.get hl ha
    obtain ⟨ad, rfl, hSa, ca⟩ := hrow 1 ga hga
    have HB0 := Lib.hid (show b0 = plainB a by rw [hb0]; simp [okB, ha])
    have HTA := Lib.hid hTa
    have WA := Lib.hid (wfs_get HWS.out a (List.mem_of_getElem? ha))
    unfold ptr at ca
    have ca : w.cell? ⟨ad.block, ad.off + 1, none⟩ = some (.pointer (some ⟨ga, 0, none⟩)) := ca
    have kk : ∀ w1, Below w.heap.size w w1 → w1.cell? ⟨g, 2, none⟩ = some (.slice (some ad) ks.length c) := fun w1 hb => (hb.cell (World.block_lt_of_cell? w _ c2)).trans c2
    clear hl hrow hk hb0 ha hga hTa hSa
    go_enter Try.func56, Try.ntmps56
    go_wp2_with fail
    refine (plain_calls a S ga _ WA.out HTA.out).mono ?_
    rintro e w1 ⟨rfl, hbs⟩
    have k2 := kk w1 hbs
    go_wp2
    go_loopw [3, 5, 39] (fun v3 v5 v39 wr => ∃ i : Nat, i ≤ ks.length ∧ v39 = .int .i64 i ∧ v3 = .bool (b0 && handedAll (ks.take i)) ∧ Below w.heap.size w wr) (fun _ _ v39 _ => ks.length - (intOf v39).toNat)
    case atStart => exact ⟨0, Nat.zero_le _, rfl, by rw [HB0.out]; simp [handedAll], hbs⟩
    case round =>
      obtain ⟨i, hi, rfl, rfl, hBw⟩ := hrel
      by_cases hlt : i < ks.length
      · obtain ⟨t, ht⟩ : ∃ t, ks[i]? = some t := ⟨ks[i], by simp [hlt]⟩
        obtain ⟨q, hq, hT⟩ := LAt.get HL.out ht
        obtain ⟨ad', eA, hSa, hcell⟩ := HROW.out i q hq
        first | subst eA | (injection eA with eA; subst eA)
        have hcell := (hBw.cell (World.block_lt_of_cell? w _ hcell)).trans hcell
        have hall : (b0 && handedAll (ks.take (i + 1))) = ((b0 && handedAll (ks.take i)) && handedB t) := by rw [List.take_add_one, ht, handedAll_append, Bool.and_assoc]; simp [handedAll]
        have HALL := Lib.hid hall
        have HT := Lib.hid hT
        have HI := Lib.hid (IH.out t (List.mem_of_getElem? ht))
        have HW := Lib.hid (wfs_get HWS.out t (List.mem_of_getElem? ht))
        unfold ptr at hcell
        clear hall hT ht hq hSa
        cases hv : (b0 && handedAll (ks.take i)) with
        | true =>
          have HV := Lib.hid hv
          clear hv
          go_wp2_with fail
          refine (HI.out S q _ HW.out (HT.out.below hBw)).mono ?_
          rintro e w2 ⟨rfl, hb2⟩
          go_wp2
          go_roundw
          case rel => exact ⟨i + 1, by omega, by go_num, by rw [HALL.out, HV.out]; simp, below_step hBw hb2⟩
          case measure => simp [intOf]; omega
        | false =>
          have HV := Lib.hid hv
          clear hv
          go_wp2
          go_roundw
          case rel => exact ⟨i + 1, by omega, by go_num, by rw [HALL.out, HV.out]; simp, hBw⟩
          case measure => simp [intOf]; omega
      · obtain rfl : i = ks.length := by omega
        have htk : ks.take ks.length = ks := List.take_length
        rw [htk]
        clear htk
        go_wp2
        go_ret
        exact ⟨by rw [HE.out]; first | done | rfl, hBw⟩
  have b4 : (k == 4) = false := by simp [h4]
  by_cases h5 : k = 5
  · subst h5
    have HB0 := Lib.hid (show b0 = plainB (.mk 5 n ks) by rw [hb0]; simp [okB])
    have kk : ∀ w1, Below w.heap.size w w1 → w1.cell? ⟨g, 2, none⟩ = some (.slice A ks.length c) := fun w1 hb => (hb.cell (World.block_lt_of_cell? w _ c2)).trans c2
    clear hl hrow hk hb0
    go_enter Try.func56, Try.ntmps56
    go_wp2_with fail
    refine (plain_calls _ S g _ HWF.out HTT.out).mono ?_
    rintro e w1 ⟨rfl, hbs⟩
    have k2 := kk w1 hbs
    go_wp2
    go_loopw [3, 5, 39] (fun v3 v5 v39 wr => ∃ i : Nat, i ≤ ks.length ∧ v39 = .int .i64 i ∧ v3 = .bool (b0 && handedAll (ks.take i)) ∧ Below w.heap.size w wr) (fun _ _ v39 _ => ks.length - (intOf v39).toNat)
    case atStart => exact ⟨0, Nat.zero_le _, rfl, by rw [HB0.out]; simp [handedAll], hbs⟩
    case round =>
      obtain ⟨i, hi, rfl, rfl, hBw⟩ := hrel
      by_cases hlt : i < ks.length
      · obtain ⟨t, ht⟩ : ∃ t, ks[i]? = some t := ⟨ks[i], by simp [hlt]⟩
        obtain ⟨q, hq, hT⟩ := LAt.get HL.out ht
        obtain ⟨ad', eA, hSa, hcell⟩ := HROW.out i q hq
        first | subst eA | (injection eA with eA; subst eA)
        have hcell := (hBw.cell (World.block_lt_of_cell? w _ hcell)).trans hcell
        have hall : (b0 && handedAll (ks.take (i + 1))) = ((b0 && handedAll (ks.take i)) && handedB t) := by rw [List.take_add_one, ht, handedAll_append, Bool.and_assoc]; simp [handedAll]
        have HALL := Lib.hid hall
        have HT := Lib.hid hT
        have HI := Lib.hid (IH.out t (List.mem_of_getElem? ht))
        have HW := Lib.hid (wfs_get HWS.out t (List.mem_of_getElem? ht))
        unfold ptr at hcell
        clear hall hT ht hq hSa
        cases hv : (b0 && handedAll (ks.take i)) with
        | true =>
          have HV := Lib.hid hv
          clear hv
          go_wp2_with fail
          refine (HI.out S q _ HW.out (HT.out.below hBw)).mono ?_
          rintro e w2 ⟨rfl, hb2⟩
          go_wp2
          go_roundw
          case rel => exact ⟨i + 1, by omega, by go_num, by rw [HALL.out, HV.out]; simp, below_step hBw hb2⟩
          case measure => simp [intOf]; omega
        | false =>
          have HV := Lib.hid hv
          clear hv
          go_wp2
          go_roundw
          case rel => exact ⟨i + 1, by omega, by go_num, by rw [HALL.out, HV.out]; simp, hBw⟩
          case measure => simp [intOf]; omega
      · obtain rfl : i = ks.length := by omega
        have htk : ks.take ks.length = ks := List.take_length
        rw [htk]
        clear htk
        go_wp2
        go_ret
        exact ⟨by rw [HE.out]; first | done | rfl, hBw⟩
  have b5 : (k == 5) = false := by simp [h5]
  by_cases h6 : k = 6
  · subst h6
    have hk2 : ks.length = 3 := by simp [arI] at hk; omega
    obtain ⟨a, ha⟩ : ∃ a, ks[0]? = some a := ⟨ks[0], by simp [hk2]⟩
    obtain ⟨ga, hga, hTa⟩ := LAt.get hl ha
    obtain ⟨ad, rfl, hSa, ca⟩ := hrow 0 ga hga
    have HB0 := Lib.hid (show b0 = plainB a by rw [hb0]; simp [okB, ha])
    have HTA := Lib.hid hTa
    have WA := Lib.hid (wfs_get HWS.out a (List.mem_of_getElem? ha))
    unfold ptr at ca
    rw [show ad.add 0 = ad by simp [Addr.add]] at ca
    have kk : ∀ w1, Below w.heap.size w w1 → w1.cell? ⟨g, 2, none⟩ = some (.slice (some ad) ks.length c) := fun w1 hb => (hb.cell (World.block_lt_of_cell? w _ c2)).trans c2
    clear hl hrow hk hb0 ha hga hTa hSa
    go_enter Try.func56, Try.ntmps56
    go_wp2_with fail
    refine (plain_calls a S ga _ WA.out HTA.out).mono ?_
    rintro e w1 ⟨rfl, hbs⟩
    have k2 := kk w1 hbs
    go_wp2
    go_loopw [3, 5, 39] (fun v3 v5 v39 wr => ∃ i : Nat, i ≤ ks.length ∧ v39 = .int .i64 i ∧ v3 = .bool (b0 && handedAll (ks.take i)) ∧ Below w.heap.size w wr) (fun _ _ v39 _ => ks.length - (intOf v39).toNat)
    case atStart => exact ⟨0, Nat.zero_le _, rfl, by rw [HB0.out]; simp [handedAll], hbs⟩
    case round =>
      obtain ⟨i, hi, rfl, rfl, hBw⟩ := hrel
      by_cases hlt : i < ks.length
      · obtain ⟨t, ht⟩ : ∃ t, ks[i]? = some t := ⟨ks[i], by simp [hlt]⟩
        obtain ⟨q, hq, hT⟩ := LAt.get HL.out ht
        obtain ⟨ad', eA, hSa, hcell⟩ := HROW.out i q hq
        first | subst eA | (injection eA with eA; subst eA)
        have hcell := (hBw.cell (World.block_lt_of_cell? w _ hcell)).trans hcell
        have hall : (b0 && handedAll (ks.take (i + 1))) = ((b0 && handedAll (ks.take i)) && handedB t) := by rw [List.take_add_one, ht, handedAll_append, Bool.and_assoc]; simp [handedAll]
        have HALL := Lib.hid hall
        have HT := Lib.hid hT
        have HI := Lib.hid (IH.out t (List.mem_of_getElem? ht))
        have HW := Lib.hid (wfs_get HWS.out t (List.mem_of_getElem? ht))
        unfold ptr at hcell
        clear hall hT ht hq hSa
        cases hv : (b0 && handedAll (ks.take i)) with
        | true =>
          have HV := Lib.hid hv
          clear hv
          go_wp2_with fail
          refine (HI.out S q _ HW.out (HT.out.below hBw)).mono ?_
          rintro e w2 ⟨rfl, hb2⟩
          go_wp2
          go_roundw
          case rel => exact ⟨i + 1, by omega, by go_num, by rw [HALL.out, HV.out]; simp, below_step hBw hb2⟩
          case measure => simp [intOf]; omega
        | false =>
          have HV := Lib.hid hv
          clear hv
          go_wp2
          go_roundw
          case rel => exact ⟨i + 1, by omega, by go_num, by rw [HALL.out, HV.out]; simp, hBw⟩
          case measure => simp [intOf]; omega
      · obtain rfl : i = ks.length := by omega
        have htk : ks.take ks.length = ks := List.take_length
        rw [htk]
        clear htk
        go_wp2
        go_ret
        exact ⟨by rw [HE.out]; first | done | rfl, hBw⟩
  have b6 : (k == 6) = false := by simp [h6]
  have HB0 := Lib.hid (show b0 = true by rw [hb0]; simp [okB, h4, h5, h6, h7])
  clear hl hrow hk hb0 h4 h5 h6 h7
  go_enter Try.func56, Try.ntmps56
  go_wp2
  have hbs : Below w.heap.size w w := Below.refl _ _
  go_loopw [3, 5, 39] (fun v3 v5 v39 wr => ∃ i : Nat, i ≤ ks.length ∧ v39 = .int .i64 i ∧ v3 = .bool (b0 && handedAll (ks.take i)) ∧ Below w.heap.size w wr) (fun _ _ v39 _ => ks.length - (intOf v39).toNat)
  case atStart => exact ⟨0, Nat.zero_le _, rfl, by rw [HB0.out]; simp [handedAll], hbs⟩
  case round =>
    obtain ⟨i, hi, rfl, rfl, hBw⟩ := hrel
    by_cases hlt : i < ks.length
    · obtain ⟨t, ht⟩ : ∃ t, ks[i]? = some t := ⟨ks[i], by simp [hlt]⟩
      obtain ⟨q, hq, hT⟩ := LAt.get HL.out ht
      obtain ⟨ad', eA, hSa, hcell⟩ := HROW.out i q hq
      first | subst eA | (injection eA with eA; subst eA)
      have hcell := (hBw.cell (World.block_lt_of_cell? w _ hcell)).trans hcell
      have hall : (b0 && handedAll (ks.take (i + 1))) = ((b0 && handedAll (ks.take i)) && handedB t) := by rw [List.take_add_one, ht, handedAll_append, Bool.and_assoc]; simp [handedAll]
      have HALL := Lib.hid hall
      have HT := Lib.hid hT
      have HI := Lib.hid (IH.out t (List.mem_of_getElem? ht))
      have HW := Lib.hid (wfs_get HWS.out t (List.mem_of_getElem? ht))
      unfold ptr at hcell
      clear hall hT ht hq hSa
      cases hv : (b0 && handedAll (ks.take i)) with
      | true =>
        have HV := Lib.hid hv
        clear hv
        go_wp2_with fail
        refine (HI.out S q _ HW.out (HT.out.below hBw)).mono ?_
        rintro e w2 ⟨rfl, hb2⟩
        go_wp2
        go_roundw
        case rel => exact ⟨i + 1, by omega, by go_num, by rw [HALL.out, HV.out]; simp, below_step hBw hb2⟩
        case measure => simp [intOf]; omega
      | false =>
        have HV := Lib.hid hv
        clear hv
        go_wp2
        go_roundw
        case rel => exact ⟨i + 1, by omega, by go_num, by rw [HALL.out, HV.out]; simp, hBw⟩
        case measure => simp [intOf]; omega
    · obtain rfl : i = ks.length := by omega
      have htk : ks.take ks.length = ks := List.take_length
      rw [htk]
      clear htk
      go_wp2
      go_ret
      exact ⟨by rw [HE.out]; first | done | rfl, hBw⟩

theorem mkids_wf {f : List S66 → Option (Tm × List S66)} (hf : ∀ l t r, f l = some (t, r) → t.wf) : ∀ m l ts r, mkids f m l = some (ts, r) → wfs ts ∧ ts.length = m := by
  intro m
  induction m with
  | zero => intro l ts r h; simp [mkids] at h; obtain ⟨rfl, rfl⟩ := h; simp [wfs]
  | succ m ih =>
    intro l ts r h
    simp only [mkids] at h
    cases h1 : f l with
    | none => rw [h1] at h; simp at h
    | some p =>
      obtain ⟨t, r1⟩ := p
      rw [h1] at h
      simp only at h
      cases h2 : mkids f m r1 with
      | none => rw [h2] at h; simp at h
      | some q =>
        obtain ⟨ts', r2⟩ := q
        rw [h2] at h
        simp at h
        obtain ⟨rfl, rfl⟩ := h
        have := hf _ _ _ h1
        have := ih _ _ _ h2
        simp only [wfs, List.length_cons]
        exact ⟨⟨by assumption, this.1⟩, by omega⟩

theorem cellB_arI {x : S66} (hb : cellB x = true) : 0 ≤ arI x.f0 := by
  unfold cellB at hb
  split at hb
  · simp [arI, *]
  · split at hb
    · simp [arI, *]
    · simp at hb; omega

theorem mparse_wf : ∀ (k : Nat) (l : List S66) (t : Tm) (r : List S66), mparse k l = some (t, r) → t.wf := by
  intro k
  induction k with
  | zero => intro l t r h; simp [mparse] at h
  | succ k ih =>
    intro l t r h
    cases l with
    | nil => simp [mparse] at h
    | cons x l =>
      simp only [mparse] at h
      split at h
      · rename_i hb
        have ha := cellB_arI hb
        cases h1 : mkids (mparse k) (arI x.f0).toNat l with
        | none => rw [h1] at h; simp at h
        | some p =>
          obtain ⟨ts, r1⟩ := p
          rw [h1] at h
          simp at h
          obtain ⟨rfl, _⟩ := h
          have := mkids_wf ih _ _ _ _ h1
          simp only [Tm.wf]
          exact ⟨by omega, this.1⟩
      · simp at h

theorem tmof_wf {l : List S66} {t : Tm} (h : tmof l = some t) : t.wf := by
  unfold tmof at h
  split at h
  · split at h
    · rename_i h1; injection h with h; subst h; exact mparse_wf _ _ _ _ h1
    · cases h
  · cases h

/-- What IsHanded answers. -/
def handedOf (l : List S66) : Bool × Bool := match tmof l with
  | none => (false, false)
  | some t => (handedB t, true)

theorem IsHanded_calls (l : List S66) (A : Option Addr) (c : Nat) (w : World) (hr : Kd.C k66 w A l.length l) (hc : l.length ≤ c) :
    Calls Try.prog 21 #[.slice A l.length c] w fun e w' => e = .returned (.tuple #[.bool (handedOf l).1, .bool (handedOf l).2]) ∧ Below w.heap.size w w' := by
  cases hq : tmof l with
  | none =>
    have e : handedOf l = (false, false) := by simp [handedOf, hq]
    rw [e]
    have HQ := Lib.hid hq
    clear hq e
    go_enter Try.func21, Try.ntmps21
    go_wp2_with (go_at_call 49; refine (termOf_calls l A c _ hr hc).mono ?_; rw [HQ.out]; rintro e w1 ⟨hb, rfl⟩)
    go_ret2
    exact ⟨rfl, hb⟩
  | some t =>
    have e : handedOf l = (handedB t, true) := by simp [handedOf, hq]
    rw [e]
    have HW := Lib.hid (tmof_wf hq)
    have HQ := Lib.hid hq
    clear hq e
    go_enter Try.func21, Try.ntmps21
    go_wp2_with fail
    refine (termOf_calls l A c _ hr hc).mono ?_
    rw [HQ.out]
    rintro e w1 ⟨hb, g, rfl, ha⟩
    have HA := Lib.hid ha
    clear ha
    unfold ptr
    go_wp2_with fail
    refine (isHanded_calls t _ g _ HW.out HA.out).mono ?_
    rintro e w2 ⟨rfl, hb2⟩
    go_wp2
    go_ret2
    exact ⟨rfl, below_step hb hb2⟩
end Go.Proofs.Ytgoiifpimpnlpaa.PAll
