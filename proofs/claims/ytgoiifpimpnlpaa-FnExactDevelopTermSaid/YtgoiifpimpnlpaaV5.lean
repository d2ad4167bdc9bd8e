-- Made by pack.py of the texts that the law reaches.
import Derived.Test.YtgoiifpimpnlpaaV4
section
namespace Go.Proofs.Ytgoiifpimpnlpaa.PAll
open Go.RowKit Go.Proofs.YtgoiifpimpnlpaaW.PrintWords Go.Proofs.YtgoiifpimpnlpaaW.PrintLast Go.Proofs.YtgoiifpimpnlpaaW.PrintMore
set_option linter.unusedVariables false
set_option linter.unusedSimpArgs false
def Tm.ks : Tm → List Tm
  | .mk _ _ ks => ks
def kid (ks : List Tm) (i : Nat) : Tm := ks.getD i (tvar 0)
def contrT (k : Int) (ks : List Tm) : Tm := if k = 7 then tsubst 0 (kid ks 0) (kid ks 1) else if k = 4 then tsubst 0 (kid ks 1) (kid (kid ks 0).ks 0) else if k = 5 then .mk 2 ((kid ks 0).nu + (kid ks 1).nu) [] else if (kid ks 0).nu = 0 then kid ks 1 else kid ks 2
theorem kid_get {ks : List Tm} {i : Nat} (h : i < ks.length) : ks[i]? = some (kid ks i) := by
  simp [kid, List.getD_eq_getElem?_getD, h]
theorem kid_mem {ks : List Tm} {i : Nat} (h : i < ks.length) : kid ks i ∈ ks := List.mem_of_getElem? (kid_get h)
set_option maxRecDepth 100000 in
set_option maxHeartbeats 4000000 in
theorem contract_calls (S : Nat → Prop) (B k n : Int) (ks : List Tm) (g : Nat) (w : World) (hr : redexB k ks = true) (hB : B ≤ 1000000000000) (hC : (Tm.mk k n ks).cnt ≤ 1000000000) (hwf : (Tm.mk k n ks).wf) (hwn : (Tm.mk k n ks).wn) (hvb : (Tm.mk k n ks).vb B) (hS : ∀ k, w.heap.size ≤ k → S k) (hT : TAt S w g (.mk k n ks)) :
    Calls Try.prog 109 #[ptr g] w (PPost S (contrT k ks) w) := by
  simp only [Tm.wf] at hwf
  simp only [Tm.wn] at hwn
  rw [vb_mk] at hvb
  rw [cnt_mk] at hC
  obtain ⟨hk, hws⟩ := hwf
  have hwns := hwn.2
  have hvbs := hvb.2
  obtain ⟨A, c, gs, hc, c0, c1, c2, c3, hrow, hl⟩ := hT.cells
  unfold ptr
  clear hT hwn hvb
  by_cases h7 : k = 7
  · subst h7
    have hk2 : ks.length = 2 := by simp [arI] at hk; omega
    have ha := kid_get (ks := ks) (i := 0) (by omega)
    have hb := kid_get (ks := ks) (i := 1) (by omega)
    have ma := kid_mem (ks := ks) (i := 0) (by omega)
    have mb := kid_mem (ks := ks) (i := 1) (by omega)
    obtain ⟨ga, hga, hTa⟩ := LAt.get hl ha
    obtain ⟨gb, hgb, hTb⟩ := LAt.get hl hb
    obtain ⟨ad, rfl, hSa, ca⟩ := hrow 0 ga hga
    obtain ⟨ad', e', hSb, cb⟩ := hrow 1 gb hgb
    obtain rfl : ad = ad' := by injection e'
    have cna := cnt_mem ma
    have cnb := cnt_mem mb
    unfold ptr at ca cb
    rw [show ad.add 0 = ad by simp [Addr.add]] at ca
    have cb : w.cell? ⟨ad.block, ad.off + 1, none⟩ = some (.pointer (some ⟨gb, 0, none⟩)) := cb
    have C := Lib.hid (fun (W : World) (hb2 : Below w.heap.size w W) => subst_calls S B 0 (kid ks 1) (kid ks 0) gb ga W (by omega) (by omega) hB (by omega) (vbs_get hvbs _ mb) (wfs_get hws _ mb) (by omega) (vbs_get hvbs _ ma) (wfs_get hws _ ma) (fun x hx => hS x (by have := hb2.size; omega)) (hTb.below hb2) (hTa.below hb2))
    have e : contrT 7 ks = tsubst 0 (kid ks 0) (kid ks 1) := by simp [contrT]
    rw [e]
    unfold ptr at C
    clear hl hrow hk ha hb hga hgb hTa hTb hSa hSb hws hwns hvbs e' e ma mb cna cnb hr hS hC
    have SS := Lib.hid (show ∀ W : World, Below w.heap.size w W → W.cell? ⟨g, 2, none⟩ = some (.slice (some ad) ks.length c) ∧ W.cell? ad = some (.pointer (some ⟨ga, 0, none⟩)) ∧ W.cell? ⟨ad.block, ad.off + 1, none⟩ = some (.pointer (some ⟨gb, 0, none⟩)) from fun W hW => ⟨(hW.cell (aa_ w _ c2)).trans c2, (hW.cell (aa_ w _ ca)).trans ca, (hW.cell (aa_ w _ cb)).trans cb⟩)
    have S4 := SS.out w.drew (ah_ (at_ _ _))
    go_enter Try.func109, Try.ntmps109
    go_wp2
    go_region_held3 (fun W => W.cell? ⟨g, 2, none⟩ = some (.slice (some ad) ks.length c) ∧ W.cell? ad = some (.pointer (some ⟨ga, 0, none⟩)) ∧ W.cell? ⟨ad.block, ad.off + 1, none⟩ = some (.pointer (some ⟨gb, 0, none⟩))) (first | (with_reducible exact S4))
      (first
      | (go_at_call 62; (with_reducible refine (C.out _ (by repeat (first | exact at_ _ _ | apply ag_ | apply ah_))).mono ?_); rintro e w3 hpost; obtain ⟨r, rfl, hr, hb3⟩ := PPost.lower (show Below w.heap.size w _ from by repeat (first | exact at_ _ _ | apply ag_ | apply ah_)) hpost; have HR := Lib.hid hr; have HB3 := Lib.hid hb3; have S4 := SS.out _ hb3; clear hpost hr hb3; unfold ptr))
    all_goals go_wp2
    all_goals go_ret
    all_goals exact ⟨r, rfl, HR.out, HB3.out⟩
  have b7 : (k == 7) = false := by simp [h7]
  by_cases h4 : k = 4
  · subst h4
    have hk2 : ks.length = 2 := by simp [arI] at hk; omega
    have ha := kid_get (ks := ks) (i := 0) (by omega)
    have hb := kid_get (ks := ks) (i := 1) (by omega)
    have ma := kid_mem (ks := ks) (i := 0) (by omega)
    have mb := kid_mem (ks := ks) (i := 1) (by omega)
    obtain ⟨ga, hga, hTa⟩ := LAt.get hl ha
    obtain ⟨gb, hgb, hTb⟩ := LAt.get hl hb
    obtain ⟨ad, rfl, hSa, ca⟩ := hrow 0 ga hga
    obtain ⟨ad', e', hSb, cb⟩ := hrow 1 gb hgb
    obtain rfl : ad = ad' := by injection e'
    have cna := cnt_mem ma
    have cnb := cnt_mem mb
    have hka : (kid ks 0).kd = 3 := by simp [redexB, ha] at hr; exact hr
    have wfa := wfs_get hws _ ma
    have vba := vbs_get hvbs _ ma
    have e : contrT 4 ks = tsubst 0 (kid ks 1) (kid (kid ks 0).ks 0) := by simp [contrT]
    rw [e]
    obtain ⟨fa, hfa⟩ : ∃ x, x = kid ks 0 := ⟨_, rfl⟩
    rw [← hfa] at hTa hka wfa vba cna ⊢
    cases fa with | mk ka na kas =>
    simp only [Tm.kd] at hka
    subst hka
    simp only [Tm.wf] at wfa
    rw [vb_mk] at vba
    rw [cnt_mk] at cna
    have hk1 : kas.length = 1 := by have := wfa.1; simp [arI] at this; omega
    have hd := kid_get (ks := kas) (i := 0) (by omega)
    have md := kid_mem (ks := kas) (i := 0) (by omega)
    have cnd := cnt_mem md
    obtain ⟨A2, k2, gs2, hk2', d0, d1, d2, d3, hrow2, hl2⟩ := hTa.cells
    obtain ⟨gd, hgd, hTd⟩ := LAt.get hl2 hd
    obtain ⟨ad2, rfl, hSd, cd⟩ := hrow2 0 gd hgd
    unfold ptr at ca cb cd
    rw [show ad.add 0 = ad by simp [Addr.add]] at ca
    rw [show ad2.add 0 = ad2 by simp [Addr.add]] at cd
    have cb : w.cell? ⟨ad.block, ad.off + 1, none⟩ = some (.pointer (some ⟨gb, 0, none⟩)) := cb
    have C := Lib.hid (fun (W : World) (hb2 : Below w.heap.size w W) => subst_calls S B 0 (kid kas 0) (kid ks 1) gd gb W (by omega) (by omega) hB (by omega) (vbs_get vba.2 _ md) (wfs_get wfa.2 _ md) (by omega) (vbs_get hvbs _ mb) (wfs_get hws _ mb) (fun x hx => hS x (by have := hb2.size; omega)) (hTd.below hb2) (hTb.below hb2))
    show Calls Try.prog 109 _ w (PPost S (tsubst 0 (kid ks 1) (kid kas 0)) w)
    unfold ptr at C
    clear hl hrow hk ha hb hga hgb hTa hTb hSa hSb hws hwns hvbs e' e ma mb cna cnb hr hS hC hrow2 hl2 hTd hSd wfa vba hd md cnd hgd hfa
    have SS := Lib.hid (show ∀ W : World, Below w.heap.size w W → W.cell? ⟨g, 2, none⟩ = some (.slice (some ad) ks.length c) ∧ W.cell? ad = some (.pointer (some ⟨ga, 0, none⟩)) ∧ W.cell? ⟨ad.block, ad.off + 1, none⟩ = some (.pointer (some ⟨gb, 0, none⟩)) ∧ W.cell? ⟨ga, 2, none⟩ = some (.slice (some ad2) kas.length k2) ∧ W.cell? ad2 = some (.pointer (some ⟨gd, 0, none⟩)) from fun W hW => ⟨(hW.cell (aa_ w _ c2)).trans c2, (hW.cell (aa_ w _ ca)).trans ca, (hW.cell (aa_ w _ cb)).trans cb, (hW.cell (aa_ w _ d2)).trans d2, (hW.cell (aa_ w _ cd)).trans cd⟩)
    have S4 := SS.out w.drew (ah_ (at_ _ _))
    go_enter Try.func109, Try.ntmps109
    go_wp2
    go_region_held3 (fun W => W.cell? ⟨g, 2, none⟩ = some (.slice (some ad) ks.length c) ∧ W.cell? ad = some (.pointer (some ⟨ga, 0, none⟩)) ∧ W.cell? ⟨ad.block, ad.off + 1, none⟩ = some (.pointer (some ⟨gb, 0, none⟩)) ∧ W.cell? ⟨ga, 2, none⟩ = some (.slice (some ad2) kas.length k2) ∧ W.cell? ad2 = some (.pointer (some ⟨gd, 0, none⟩))) (first | (with_reducible exact S4))
      (first
      | (go_at_call 62; (with_reducible refine (C.out _ (by repeat (first | exact at_ _ _ | apply ag_ | apply ah_))).mono ?_); rintro e w3 hpost; obtain ⟨r, rfl, hr, hb3⟩ := PPost.lower (show Below w.heap.size w _ from by repeat (first | exact at_ _ _ | apply ag_ | apply ah_)) hpost; have HR := Lib.hid hr; have HB3 := Lib.hid hb3; have S4 := SS.out _ hb3; clear hpost hr hb3; unfold ptr))
    all_goals go_wp2
    all_goals go_ret
    all_goals exact ⟨r, rfl, HR.out, HB3.out⟩
  have b4 : (k == 4) = false := by simp [h4]
  by_cases h5 : k = 5
  · subst h5
    have hk2 : ks.length = 2 := by simp [arI] at hk; omega
    have ha := kid_get (ks := ks) (i := 0) (by omega)
    have hb := kid_get (ks := ks) (i := 1) (by omega)
    have ma := kid_mem (ks := ks) (i := 0) (by omega)
    have mb := kid_mem (ks := ks) (i := 1) (by omega)
    obtain ⟨ga, hga, hTa⟩ := LAt.get hl ha
    obtain ⟨gb, hgb, hTb⟩ := LAt.get hl hb
    obtain ⟨ad, rfl, hSa, ca⟩ := hrow 0 ga hga
    obtain ⟨ad', e', hSb, cb⟩ := hrow 1 gb hgb
    obtain rfl : ad = ad' := by injection e'
    have hadd : addB (kid ks 0) (kid ks 1) = true := by simpa [redexB, ha, hb] using hr
    have hsum : -1000000 ≤ (kid ks 0).nu + (kid ks 1).nu ∧ (kid ks 0).nu + (kid ks 1).nu ≤ 1000000 := by
      simp only [addB, Bool.and_eq_true, decide_eq_true_eq] at hadd
      exact hadd.2.2
    have ena := hTa.nu_cell
    have enb := hTb.nu_cell
    have e : contrT 5 ks = .mk 2 ((kid ks 0).nu + (kid ks 1).nu) [] := by simp [contrT]
    rw [e]
    obtain ⟨x, hx⟩ : ∃ x, x = (kid ks 0).nu := ⟨_, rfl⟩
    obtain ⟨y, hy⟩ : ∃ y, y = (kid ks 1).nu := ⟨_, rfl⟩
    rw [← hx] at ena hsum ⊢
    rw [← hy] at enb hsum ⊢
    have hwr : IntKind.i64.wrap (x + y) = x + y := by rw [IntKind.wrap_i64]; omega
    unfold ptr at ca cb
    rw [show ad.add 0 = ad by simp [Addr.add]] at ca
    have cb : w.cell? ⟨ad.block, ad.off + 1, none⟩ = some (.pointer (some ⟨gb, 0, none⟩)) := cb
    have N := Lib.hid (fun (W' : World) (hb2 : Below w.heap.size w W') => newLeaf_calls S 2 (x + y) W' (fun x hx => hS x (by have := hb2.size; omega)))
    clear hl hrow hk ha hb hga hgb hTa hTb hSa hSb hws hwns hvbs e' e ma mb hr hS hC hadd hx hy
    have SS := Lib.hid (show ∀ W : World, Below w.heap.size w W → W.cell? ⟨g, 2, none⟩ = some (.slice (some ad) ks.length c) ∧ W.cell? ad = some (.pointer (some ⟨ga, 0, none⟩)) ∧ W.cell? ⟨ad.block, ad.off + 1, none⟩ = some (.pointer (some ⟨gb, 0, none⟩)) ∧ W.cell? ⟨ga, 1, none⟩ = some (.int .i64 x) ∧ W.cell? ⟨gb, 1, none⟩ = some (.int .i64 y) from fun W hW => ⟨(hW.cell (aa_ w _ c2)).trans c2, (hW.cell (aa_ w _ ca)).trans ca, (hW.cell (aa_ w _ cb)).trans cb, (hW.cell (aa_ w _ ena)).trans ena, (hW.cell (aa_ w _ enb)).trans enb⟩)
    have S4 := SS.out w.drew (ah_ (at_ _ _))
    go_enter Try.func109, Try.ntmps109
    go_wp2
    go_region_held3 (fun W => W.cell? ⟨g, 2, none⟩ = some (.slice (some ad) ks.length c) ∧ W.cell? ad = some (.pointer (some ⟨ga, 0, none⟩)) ∧ W.cell? ⟨ad.block, ad.off + 1, none⟩ = some (.pointer (some ⟨gb, 0, none⟩)) ∧ W.cell? ⟨ga, 1, none⟩ = some (.int .i64 x) ∧ W.cell? ⟨gb, 1, none⟩ = some (.int .i64 y)) (first | (with_reducible exact S4))
      (first
      | (go_at_call 93; (try rw [hwr]); (with_reducible refine (N.out _ (by repeat (first | exact at_ _ _ | apply ag_ | apply ah_))).mono ?_); rintro e w3 hpost; obtain ⟨r, rfl, hr, hb3⟩ := PPost.lower (show Below w.heap.size w _ from by repeat (first | exact at_ _ _ | apply ag_ | apply ah_)) hpost; have HR := Lib.hid hr; have HB3 := Lib.hid hb3; have S4 := SS.out _ hb3; clear hpost hr hb3; unfold ptr))
    all_goals go_wp2
    all_goals go_ret
    all_goals exact ⟨r, rfl, HR.out, HB3.out⟩
  have b5 : (k == 5) = false := by simp [h5]
  have h6 : k = 6 := by
    simp only [redexB] at hr
    rw [if_neg h7, if_neg h4] at hr
    by_cases h6 : k = 6
    · exact h6
    · rw [if_neg h6, if_neg h5] at hr; cases hr
  subst h6
  have hk2 : ks.length = 3 := by simp [arI] at hk; omega
  have ha := kid_get (ks := ks) (i := 0) (by omega)
  obtain ⟨ga, hga, hTa⟩ := LAt.get hl ha
  obtain ⟨ad, rfl, hSa, ca⟩ := hrow 0 ga hga
  have ena := hTa.nu_cell
  have e : contrT 6 ks = if (kid ks 0).nu = 0 then kid ks 1 else kid ks 2 := by simp [contrT]
  rw [e]
  obtain ⟨x, hx⟩ : ∃ x, x = (kid ks 0).nu := ⟨_, rfl⟩
  rw [← hx] at ena ⊢
  unfold ptr at ca
  rw [show ad.add 0 = ad by simp [Addr.add]] at ca
  by_cases hz : x = 0
  · subst hz
    rw [if_pos rfl]
    have hb := kid_get (ks := ks) (i := 1) (by omega)
    obtain ⟨gb, hgb, hTb⟩ := LAt.get hl hb
    obtain ⟨ad', e', hSb, cb⟩ := hrow 1 gb hgb
    obtain rfl : ad = ad' := by injection e'
    unfold ptr at cb
    have cb : w.cell? ⟨ad.block, ad.off + 1, none⟩ = some (.pointer (some ⟨gb, 0, none⟩)) := cb
    have HT := Lib.hid hTb
    clear hl hrow hk ha hb hga hgb hTa hTb hSa hSb hws hwns hvbs e' e hr hS hC hx
    go_enter Try.func109, Try.ntmps109
    go_wp2
    go_ret
    exact ⟨gb, rfl, HT.out, at_ _ _⟩
  · rw [if_neg hz]
    have hb := kid_get (ks := ks) (i := 2) (by omega)
    obtain ⟨gb, hgb, hTb⟩ := LAt.get hl hb
    obtain ⟨ad', e', hSb, cb⟩ := hrow 2 gb hgb
    obtain rfl : ad = ad' := by injection e'
    have bz : (x == 0) = false := by rw [beq_eq_false_iff_ne]; exact hz
    unfold ptr at cb
    have cb : w.cell? ⟨ad.block, ad.off + 2, none⟩ = some (.pointer (some ⟨gb, 0, none⟩)) := cb
    have HT := Lib.hid hTb
    clear hl hrow hk ha hb hga hgb hTa hTb hSa hSb hws hwns hvbs e' e hr hS hC hx hz
    go_enter Try.func109, Try.ntmps109
    go_wp2
    go_ret
    exact ⟨gb, rfl, HT.out, at_ _ _⟩
theorem contr_all {B : Int} {k n : Int} {ks : List Tm} (hr : redexB k ks = true) (hB : 0 ≤ B) (hwf : (Tm.mk k n ks).wf) (hwn : (Tm.mk k n ks).wn) (hvb : (Tm.mk k n ks).vb B) : (contrT k ks).vb (B + (Tm.mk k n ks).cnt) ∧ (contrT k ks).wf ∧ (contrT k ks).wn := by
  simp only [Tm.wf] at hwf
  simp only [Tm.wn] at hwn
  rw [vb_mk] at hvb
  rw [cnt_mk]
  obtain ⟨hk, hws⟩ := hwf
  have hwns := hwn.2
  have hvbs := hvb.2
  unfold contrT
  by_cases h7 : k = 7
  · rw [if_pos h7]
    subst h7
    have hk2 : ks.length = 2 := by simp [arI] at hk; omega
    have ma := kid_mem (ks := ks) (i := 0) (by omega)
    have mb := kid_mem (ks := ks) (i := 1) (by omega)
    have cnb := cnt_mem mb
    obtain ⟨a1, a2, a3⟩ := subst_all (C := B) (k := 0) (kid ks 0) (kid ks 1) (vbs_get hvbs _ ma) (wfs_get hws _ ma) (wns_get hwns _ ma) (vbs_get hvbs _ mb) (wfs_get hws _ mb) (wns_get hwns _ mb) (by omega)
    exact ⟨vb_mono (by omega) _ a1, a2, a3⟩
  rw [if_neg h7]
  by_cases h4 : k = 4
  · rw [if_pos h4]
    subst h4
    have hk2 : ks.length = 2 := by simp [arI] at hk; omega
    have ma := kid_mem (ks := ks) (i := 0) (by omega)
    have mb := kid_mem (ks := ks) (i := 1) (by omega)
    have ha := kid_get (ks := ks) (i := 0) (by omega)
    have hka : (kid ks 0).kd = 3 := by simp [redexB, ha] at hr; exact hr
    have wfa := wfs_get hws _ ma
    have vba := vbs_get hvbs _ ma
    have wna := wns_get hwns _ ma
    have cna := cnt_mem ma
    obtain ⟨fa, hfa⟩ : ∃ x, x = kid ks 0 := ⟨_, rfl⟩
    rw [← hfa] at hka wfa vba wna cna ⊢
    cases fa with | mk ka na kas =>
    simp only [Tm.kd] at hka
    subst hka
    simp only [Tm.wf] at wfa
    simp only [Tm.wn] at wna
    rw [vb_mk] at vba
    rw [cnt_mk] at cna
    have hk1 : kas.length = 1 := by have := wfa.1; simp [arI] at this; omega
    have md := kid_mem (ks := kas) (i := 0) (by omega)
    have cnd := cnt_mem md
    obtain ⟨a1, a2, a3⟩ := subst_all (C := B) (k := 0) (kid ks 1) (kid kas 0) (vbs_get hvbs _ mb) (wfs_get hws _ mb) (wns_get hwns _ mb) (vbs_get vba.2 _ md) (wfs_get wfa.2 _ md) (wns_get wna.2 _ md) (by omega)
    exact ⟨vb_mono (by omega) _ a1, a2, a3⟩
  rw [if_neg h4]
  by_cases h5 : k = 5
  · rw [if_pos h5]
    subst h5
    have hk2 : ks.length = 2 := by simp [arI] at hk; omega
    have ha := kid_get (ks := ks) (i := 0) (by omega)
    have hb := kid_get (ks := ks) (i := 1) (by omega)
    have hadd : addB (kid ks 0) (kid ks 1) = true := by simpa [redexB, ha, hb] using hr
    have hsum : -1000000 ≤ (kid ks 0).nu + (kid ks 1).nu ∧ (kid ks 0).nu + (kid ks 1).nu ≤ 1000000 := by
      simp only [addB, Bool.and_eq_true, decide_eq_true_eq] at hadd
      exact hadd.2.2
    refine ⟨?_, ?_, ?_⟩
    · simp [Tm.vb, vbs]
    · simp [Tm.wf, wfs, arI]
    · simp only [Tm.wn, wns]; exact ⟨fun _ => hsum, trivial⟩
  rw [if_neg h5]
  have h6 : k = 6 := by
    simp only [redexB] at hr
    rw [if_neg h7, if_neg h4] at hr
    by_cases h6 : k = 6
    · exact h6
    · rw [if_neg h6, if_neg h5] at hr; cases hr
  subst h6
  have hk2 : ks.length = 3 := by simp [arI] at hk; omega
  split
  · have mb := kid_mem (ks := ks) (i := 1) (by omega)
    exact ⟨vb_mono (by omega) _ (vbs_get hvbs _ mb), wfs_get hws _ mb, wns_get hwns _ mb⟩
  · have mb := kid_mem (ks := ks) (i := 2) (by omega)
    exact ⟨vb_mono (by omega) _ (vbs_get hvbs _ mb), wfs_get hws _ mb, wns_get hwns _ mb⟩
end Go.Proofs.Ytgoiifpimpnlpaa.PAll

end

section
namespace Go.Proofs.Ytgoiifpimpnlpaa.PAll
open Go.RowKit Go.Proofs.YtgoiifpimpnlpaaW.PrintWords Go.Proofs.YtgoiifpimpnlpaaW.PrintLast Go.Proofs.YtgoiifpimpnlpaaW.PrintMore
set_option linter.unusedVariables false
set_option linter.unusedSimpArgs false
mutual
/-- All redexes contracted at once. -/
def dev : Tm → Option Tm
  | .mk k n ks => match devs ks with
    | none => none
    | some us => if (Tm.mk k n us).cnt ≤ 600 then (if redexB k ks = true then some (contrT k us) else some (.mk k n us)) else none
def devs : List Tm → Option (List Tm)
  | [] => some []
  | t :: ts => match dev t with
    | none => none
    | some u => match devs ts with
      | none => none
      | some us => some (u :: us)
end
theorem dev_mk (k n : Int) (ks : List Tm) : dev (.mk k n ks) = match devs ks with
    | none => none
    | some us => if (Tm.mk k n us).cnt ≤ 600 then (if redexB k ks = true then some (contrT k us) else some (.mk k n us)) else none := by rw [dev]
theorem devs_len : ∀ {ts us : List Tm}, devs ts = some us → us.length = ts.length
  | [], us, h => by simp [devs] at h; subst h; rfl
  | t :: ts, us, h => by
    simp only [devs] at h
    cases h1 : dev t with
    | none => rw [h1] at h; simp at h
    | some u =>
      rw [h1] at h
      simp only at h
      cases h2 : devs ts with
      | none => rw [h2] at h; simp at h
      | some vs =>
        rw [h2] at h
        simp at h
        subst h
        simp [devs_len h2]
theorem devs_get : ∀ {ts us : List Tm}, devs ts = some us → ∀ (i : Nat) (t : Tm), ts[i]? = some t → ∃ u, dev t = some u ∧ us[i]? = some u
  | [], us, h, i, t, ht => by simp at ht
  | a :: ts, us, h, i, t, ht => by
    simp only [devs] at h
    cases h1 : dev a with
    | none => rw [h1] at h; simp at h
    | some u =>
      rw [h1] at h
      simp only at h
      cases h2 : devs ts with
      | none => rw [h2] at h; simp at h
      | some vs =>
        rw [h2] at h
        simp at h
        subst h
        cases i with
        | zero => simp at ht; subst ht; exact ⟨u, h1, rfl⟩
        | succ i => simp only [List.getElem?_cons_succ] at ht ⊢; exact devs_get h2 i t ht
theorem dev_leaf {t u : Tm} (hw : t.wf) (hk : t.kd = 2) (h : dev t = some u) : u = t := by
  cases t with | mk k n ks =>
  simp only [Tm.kd] at hk
  subst hk
  simp only [Tm.wf] at hw
  have : ks = [] := by have := hw.1; simp [arI] at this; exact List.length_eq_zero_iff.1 (by omega)
  subst this
  rw [dev_mk] at h
  simp [devs, redexB, Tm.cnt, cnts] at h
  exact h.symm
theorem dev_lam {t u : Tm} (hk : t.kd = 3) (h : dev t = some u) : u.kd = 3 := by
  cases t with | mk k n ks =>
  simp only [Tm.kd] at hk
  subst hk
  rw [dev_mk] at h
  cases h1 : devs ks with
  | none => rw [h1] at h; simp at h
  | some us =>
    rw [h1] at h
    simp [redexB] at h
    obtain ⟨_, rfl⟩ := h
    rfl
theorem redex_devs {k n : Int} {ks us : List Tm} (hwf : (Tm.mk k n ks).wf) (hr : redexB k ks = true) (h : devs ks = some us) : redexB k us = true := by
  simp only [Tm.wf] at hwf
  obtain ⟨hk, hws⟩ := hwf
  have hl := devs_len h
  by_cases h7 : k = 7
  · subst h7; simp [redexB]
  by_cases h4 : k = 4
  · subst h4
    have hk2 : ks.length = 2 := by simp [arI] at hk; omega
    have ha := kid_get (ks := ks) (i := 0) (by omega)
    have ma := kid_mem (ks := ks) (i := 0) (by omega)
    obtain ⟨u, hu, hg⟩ := devs_get h 0 _ ha
    have hka : (kid ks 0).kd = 3 := by simp [redexB, ha] at hr; exact hr
    simp [redexB, hg, dev_lam hka hu]
  by_cases h6 : k = 6
  · subst h6
    have hk2 : ks.length = 3 := by simp [arI] at hk; omega
    have ha := kid_get (ks := ks) (i := 0) (by omega)
    have ma := kid_mem (ks := ks) (i := 0) (by omega)
    obtain ⟨u, hu, hg⟩ := devs_get h 0 _ ha
    have hka : (kid ks 0).kd = 2 := by simp [redexB, ha] at hr; exact hr
    obtain rfl := dev_leaf (wfs_get hws _ ma) hka hu
    simp [redexB, hg, hka]
  by_cases h5 : k = 5
  · subst h5
    have hk2 : ks.length = 2 := by simp [arI] at hk; omega
    have ha := kid_get (ks := ks) (i := 0) (by omega)
    have hb := kid_get (ks := ks) (i := 1) (by omega)
    have ma := kid_mem (ks := ks) (i := 0) (by omega)
    have mb := kid_mem (ks := ks) (i := 1) (by omega)
    obtain ⟨u, hu, hg⟩ := devs_get h 0 _ ha
    obtain ⟨v, hv, hgv⟩ := devs_get h 1 _ hb
    have hadd : addB (kid ks 0) (kid ks 1) = true := by simpa [redexB, ha, hb] using hr
    have hk0 : (kid ks 0).kd = 2 ∧ (kid ks 1).kd = 2 := by
      simp only [addB, Bool.and_eq_true, decide_eq_true_eq] at hadd
      exact ⟨hadd.1, hadd.2.1⟩
    obtain rfl := dev_leaf (wfs_get hws _ ma) hk0.1 hu
    obtain rfl := dev_leaf (wfs_get hws _ mb) hk0.2 hv
    simp [redexB, hg, hgv, hadd]
  · simp only [redexB] at hr
    rw [if_neg h7, if_neg h4, if_neg h6, if_neg h5] at hr
    cases hr
theorem dev_all {B : Int} (hB : 0 ≤ B) (t : Tm) : ∀ u, t.vb B → t.wf → t.wn → dev t = some u → u.vb (B + 600 * t.cnt) ∧ u.wf ∧ u.wn := by
  refine (Tm.ind2 (P := fun t => ∀ u, t.vb B → t.wf → t.wn → dev t = some u → u.vb (B + 600 * t.cnt) ∧ u.wf ∧ u.wn) (Q := fun ts => ∀ us, vbs B ts → wfs ts → wns ts → devs ts = some us → vbs (B + 600 * cnts ts) us ∧ wfs us ∧ wns us) ?_ ?_ ?_).1 t
  · intro k n ks h u hv hw hn hd
    have HW := hw
    rw [vb_mk] at hv
    simp only [Tm.wf] at hw
    simp only [Tm.wn] at hn
    rw [dev_mk] at hd
    rw [cnt_mk]
    cases h1 : devs ks with
    | none => rw [h1] at hd; simp at hd
    | some us =>
      rw [h1] at hd
      simp only at hd
      obtain ⟨a1, a2, a3⟩ := h us hv.2 hw.2 hn.2 h1
      have hvb : (Tm.mk k n us).vb (B + 600 * cnts ks) := (vb_mk _ _ _ _).2 ⟨fun e => by have := hv.1 e; omega, a1⟩
      have hwf : (Tm.mk k n us).wf := by simp only [Tm.wf]; rw [devs_len h1]; exact ⟨hw.1, a2⟩
      have hwn : (Tm.mk k n us).wn := by simp only [Tm.wn]; exact ⟨hn.1, a3⟩
      by_cases h6 : (Tm.mk k n us).cnt ≤ 600
      · rw [if_pos h6] at hd
        split at hd
        · rename_i hr
          obtain rfl := Option.some.inj hd
          obtain ⟨b1, b2, b3⟩ := contr_all (redex_devs HW hr h1) (by omega) hwf hwn hvb
          exact ⟨vb_mono (by omega) _ b1, b2, b3⟩
        · obtain rfl := Option.some.inj hd
          exact ⟨vb_mono (by omega) _ hvb, hwf, hwn⟩
      · rw [if_neg h6] at hd; cases hd
  · intro us _ _ _ h; simp [devs] at h; subst h; simp [vbs, wfs, wns]
  · intro t ts h1 h2 us hv hw hn hd
    simp only [vbs] at hv
    simp only [wfs] at hw
    simp only [wns] at hn
    simp only [devs] at hd
    cases h3 : dev t with
    | none => rw [h3] at hd; simp at hd
    | some u =>
      rw [h3] at hd
      simp only at hd
      cases h4 : devs ts with
      | none => rw [h4] at hd; simp at hd
      | some vs =>
        rw [h4] at hd
        simp at hd
        subst hd
        obtain ⟨a1, a2, a3⟩ := h1 u hv.1 hw.1 hn.1 h3
        obtain ⟨b1, b2, b3⟩ := h2 vs hv.2 hw.2 hn.2 h4
        simp only [vbs, wfs, wns, cnts]
        refine ⟨⟨vb_mono (by omega) _ a1, ?_⟩, ⟨a2, b2⟩, ⟨a3, b3⟩⟩
        have : ∀ (l : List Tm) {C D : Int}, C ≤ D → vbs C l → vbs D l := by
          intro l
          induction l with
          | nil => intro C D _ _; simp [vbs]
          | cons x l ih => intro C D hCD h; simp only [vbs] at h ⊢; exact ⟨vb_mono hCD _ h.1, ih hCD h.2⟩
        exact this _ (by omega) b1
def DPost (S : Nat → Prop) (r : Option Tm) (w : World) (e : Ending) (w' : World) : Prop := Below w.heap.size w w' ∧ match r with
  | none => e = .returned (.pointer none)
  | some t => ∃ g, e = .returned (ptr g) ∧ TAt S w' g t
theorem DPost.of_some {S : Nat → Prop} {r : Option Tm} {w w' : World} {e : Ending} {t : Tm} {q : Nat} (hr : r = some t) (hb : Below w.heap.size w w') (ht : TAt S w' q t) (he : e = .returned (ptr q)) : DPost S r w e w' := by
  subst hr; exact ⟨hb, q, he, ht⟩
theorem DPost.of_none {S : Nat → Prop} {r : Option Tm} {w w' : World} {e : Ending} (hr : r = none) (hb : Below w.heap.size w w') (he : e = .returned (.pointer none)) : DPost S r w e w' := by
  subst hr; exact ⟨hb, he⟩
def MidD (ks : List Tm) (b : Nat) (S : Nat → Prop) (w wr : World) (j : Nat) : Prop :=
  ∃ (us : List Tm) (gs : List Nat) (arr : Array Value), us.length = j ∧ wr.heap[b]? = some (.cells arr 69 (0, 0)) ∧ arr.size = ks.length ∧ (∀ i p : Nat, gs[i]? = some p → arr[i]? = some (ptr p)) ∧ LAt (fun q => S q ∧ q ≠ b) wr gs us ∧ Below w.heap.size w wr ∧
    devs ks = match devs (ks.drop j) with
      | none => none
      | some vs => some (us ++ vs)
theorem MidD_step {ks us : List Tm} {b : Nat} {S : Nat → Prop} {w wr w2 : World} {j : Nat} {t u : Tm} {gs : List Nat} {arr : Array Value} {g : Nat} (hus : us.length = j) (ht : ks[j]? = some t) (hblk : wr.heap[b]? = some (.cells arr 69 (0, 0))) (hsz : arr.size = ks.length) (harr : ∀ i p : Nat, gs[i]? = some p → arr[i]? = some (ptr p)) (hL : LAt (fun q => S q ∧ q ≠ b) wr gs us) (hBw : Below w.heap.size w wr) (hwb : w.heap.size ≤ b) (hd : devs ks = match devs (ks.drop j) with
      | none => none
      | some vs => some (us ++ vs)) (hu : dev t = some u) (hb2 : Below wr.heap.size wr w2) (hT : TAt (fun q => S q ∧ q ≠ b) w2 g u) :
    MidD ks b S w (w2.setCell ⟨b, j, none⟩ (ptr g)) (j + 1) := by
  have hblt := blk_lt hblk
  have hgl := hL.length
  have hj : j < ks.length := by
    rcases Nat.lt_or_ge j ks.length with h | h
    · exact h
    · rw [List.getElem?_eq_none h] at ht; cases ht
  have hset : ∀ q, (S q ∧ q ≠ b) → q < w2.heap.size → (w2.setCell ⟨b, j, none⟩ (ptr g)).heap[q]? = w2.heap[q]? := fun q h _ => Below.heap_setCell w2 ⟨b, j, none⟩ _ q (by simpa using h.2)
  refine ⟨us ++ [u], gs ++ [g], arr.setIfInBounds j (ptr g), by simp [hus], blk_set ((hb2.block b hblt).trans hblk) j _, by simpa using hsz, ?_, LAt.snoc (LAt.step hset (fun _ h _ => h) (hL.below hb2)) (TAt.step hset (fun _ h _ => h) hT), af_ (below_then hBw hBw.size hb2) hwb, ?_⟩
  · intro i p hp
    by_cases hi : i < gs.length
    · rw [List.getElem?_append_left hi] at hp
      rw [Array.getElem?_setIfInBounds_ne (by omega)]
      exact harr i p hp
    · rw [List.getElem?_append_right (by omega)] at hp
      have e : i - gs.length = 0 := by
        rcases Nat.eq_zero_or_pos (i - gs.length) with h | h
        · exact h
        · rw [List.getElem?_eq_none (by simp; omega)] at hp; cases hp
      rw [e] at hp
      simp at hp
      subst hp
      obtain rfl : i = j := by omega
      rw [Array.getElem?_setIfInBounds_self_of_lt (by omega)]
  · have e : ks.drop j = t :: ks.drop (j + 1) := by
      rw [List.drop_eq_getElem_cons hj]
      rw [List.getElem?_eq_getElem hj] at ht
      rw [Option.some.inj ht]
    rw [hd, e]
    simp only [devs, hu]
    cases devs (ks.drop (j + 1)) with
    | none => rfl
    | some vs => simp
theorem devs_none {ks us : List Tm} {j : Nat} {t : Tm} (ht : ks[j]? = some t) (hd : devs ks = match devs (ks.drop j) with
      | none => none
      | some vs => some (us ++ vs)) (hu : dev t = none) : devs ks = none := by
  have hj : j < ks.length := by
    rcases Nat.lt_or_ge j ks.length with h | h
    · exact h
    · rw [List.getElem?_eq_none h] at ht; cases ht
  have e : ks.drop j = t :: ks.drop (j + 1) := by
    rw [List.drop_eq_getElem_cons hj]
    rw [List.getElem?_eq_getElem hj] at ht
    rw [Option.some.inj ht]
  rw [hd, e]
  simp only [devs, hu]
set_option maxRecDepth 100000 in
set_option maxHeartbeats 4000000 in
theorem develop_calls (B : Int) (hB0 : 0 ≤ B) (hB1 : B ≤ 1000000) (t : Tm) : ∀ (S : Nat → Prop) (g : Nat) (w : World), t.wf → t.wn → t.vb B → t.cnt ≤ 600 → (∀ k, w.heap.size ≤ k → S k) → TAt S w g t → Calls Try.prog 65 #[ptr g] w (DPost S (dev t) w) := by
  induction t using Tm.ind with
  | h k n ks ih =>
  intro S g w hwf hwn hvb hcn hS hT
  have HWF := Lib.hid hwf
  have HWN := Lib.hid hwn
  have HVB := Lib.hid hvb
  have HTT := Lib.hid hT
  have HCN := Lib.hid hcn
  have HS1 := Lib.hid hS
  simp only [Tm.wf] at hwf
  simp only [Tm.wn] at hwn
  rw [vb_mk] at hvb
  rw [cnt_mk] at hcn
  have hk3 : ks.length ≤ 3 := by have := arI_bd k; omega
  obtain ⟨A, c, gs, hc, c0, c1, c2, c3, hrow, hl⟩ := hT.cells
  have hmk : ∀ W, (Instr.makeSlice 78 (.int .i64 (ks.length : Int)) (.int .i64 (ks.length : Int))).run Try.prog W = .ok (.slice (some ⟨W.heap.size, 0, none⟩) ks.length ks.length) (W.alloc (.cells (madeCells #[.pointer none] ks.length) 69)) := run_make_row' 78 69 (.pointer none) 8 Try.underlying78 info69 rfl .i64 .i64 ks.length (by omega) (by omega)
  have k2 : ∀ o, (w.alloc o).cell? ⟨g, 2, none⟩ = some (.slice A ks.length c) := fun o => (World.cell?_alloc_lt _ _ _ (aa_ w _ c2)).trans c2
  have IH := Lib.hid ih
  have HWS := Lib.hid hwf.2
  have HWNS := Lib.hid hwn.2
  have HVS := Lib.hid hvb.2
  have HROW := Lib.hid hrow
  have HL := Lib.hid hl
  unfold ptr
  clear ih hT hwf hwn hvb hrow hl hS
  go_enter Try.func65, Try.ntmps65
  go_wp2
  obtain ⟨b, hbb⟩ : ∃ b, b = w.heap.size := ⟨_, rfl⟩
  rw [← hbb]
  have hwb : w.heap.size ≤ b := by omega
  have hM : MidD ks b S w (w.alloc (.cells (madeCells #[.pointer none] ks.length) 69)) 0 := ⟨[], [], madeCells #[.pointer none] ks.length, rfl, by rw [hbb]; exact blk_new w _, size_madeCells _ _, by simp, by simp [LAt], ai_ (at_ _ _) _, by rw [List.drop_zero]; cases devs ks <;> rfl⟩
  have HM := Lib.hid hM
  have HBB := Lib.hid hbb
  clear hM hbb hmk k2
  go_loopw [4, 5, 18] (fun v4 v5 v18 wr => ∃ j : Nat, j ≤ ks.length ∧ v18 = .int .i64 j ∧ MidD ks b S w wr j) (fun _ _ v18 _ => ks.length - (intOf v18).toNat)
  case atStart => exact ⟨0, Nat.zero_le _, rfl, HM.out⟩
  case round =>
    obtain ⟨j, hj, rfl, us, gs2, arr, hus, hblk, hsz, harr, hL2, hBw, hdev⟩ := hrel
    clear HM
    have hblt := blk_lt hblk
    have d0 : wr.cell? ⟨g, 0, none⟩ = some (.int .i64 k) := (hBw.cell (aa_ w _ c0)).trans c0
    have d1 : wr.cell? ⟨g, 1, none⟩ = some (.int .i64 n) := (hBw.cell (aa_ w _ c1)).trans c1
    by_cases hlt : j < ks.length
    · obtain ⟨t, ht⟩ : ∃ t, ks[j]? = some t := ⟨ks[j], by simp [hlt]⟩
      have hmem := List.mem_of_getElem? ht
      obtain ⟨qg, hqg, hTq⟩ := LAt.get HL.out ht
      obtain ⟨ad, rfl, hSa, hcell⟩ := HROW.out j qg hqg
      have hcell := (hBw.cell (aa_ w _ hcell)).trans hcell
      have hcnt := cnt_mem hmem
      have hTs : TAt (fun x => S x ∧ x ≠ b) wr qg t := TAt.step (fun x _ hx => hBw.block x hx) (fun x hx hlt => ⟨hx, by omega⟩) hTq
      have C := Lib.hid (IH.out t hmem (fun x => S x ∧ x ≠ b) qg wr (wfs_get HWS.out t hmem) (wns_get HWNS.out t hmem) (vbs_get HVS.out t hmem) (by omega) (fun x hx => ⟨HS1.out x (by have := hBw.size; omega), by omega⟩) hTs)
      have HX := Lib.hid ht
      have HUS := Lib.hid hus
      have HDEV := Lib.hid hdev
      have HBLK := Lib.hid hblk
      have HSZ := Lib.hid hsz
      have HARR := Lib.hid harr
      have HL2 := Lib.hid hL2
      obtain ⟨old, hold⟩ : ∃ old, arr[j]? = some old := ⟨arr[j]'(by have := HSZ.out; omega), by have := HSZ.out; simp⟩
      have HOLD := Lib.hid hold
      have HBW := Lib.hid hBw
      unfold ptr at hcell C
      clear ht hblk hsz harr hL2 hold hTs hTq hqg hSa hmem hBw hus hdev
      cases hq : dev t with
      | none =>
        have HQ := Lib.hid hq
        clear hq
        go_wp2_with fail
        refine C.out.mono ?_
        rw [HQ.out]
        rintro e w2 ⟨hb2, rfl⟩
        have HB2 := Lib.hid hb2
        have hk2 : w2.cell? ⟨b, j, none⟩ = some old := (an_ ((hb2.block b hblt).trans HBLK.out) j).trans HOLD.out
        have hf2 : w2.frozen? ⟨b, j, none⟩ = false := am_ ((hb2.block b hblt).trans HBLK.out) j
        clear hb2
        go_wp2
        go_ret
        exact DPost.of_none (by rw [dev_mk, devs_none HX.out HDEV.out HQ.out]) (af_ (below_then HBW.out HBW.out.size HB2.out) hwb) rfl
      | some u =>
        have HQ := Lib.hid hq
        clear hq
        go_wp2_with fail
        refine C.out.mono ?_
        rw [HQ.out]
        rintro e w2 ⟨hb2, r, rfl, hr⟩
        have HR := Lib.hid hr
        have HB2 := Lib.hid hb2
        have hk2 : w2.cell? ⟨b, j, none⟩ = some old := (an_ ((hb2.block b hblt).trans HBLK.out) j).trans HOLD.out
        have hf2 : w2.frozen? ⟨b, j, none⟩ = false := am_ ((hb2.block b hblt).trans HBLK.out) j
        clear hb2 hr
        unfold ptr
        go_wp2
        go_roundw
        case rel => exact ⟨j + 1, by omega, by go_num, MidD_step HUS.out HX.out HBLK.out HSZ.out HARR.out HL2.out HBW.out hwb HDEV.out HQ.out HB2.out HR.out⟩
        case measure => simp [intOf]; omega
    · obtain rfl : j = ks.length := by omega
      rw [List.drop_eq_nil_of_le (Nat.le_refl _)] at hdev
      simp only [devs, List.append_nil] at hdev
      have hrow2 : PtrRow S wr (some ⟨b, 0, none⟩) gs2 := fun i x hx => ⟨⟨b, 0, none⟩, rfl, HS1.out _ hwb, by rw [add_plain]; exact (an_ hblk i).trans (harr i x hx)⟩
      have hL3 : LAt S wr gs2 us := LAt.step (fun _ _ _ => rfl) (fun x hx _ => hx.1) hL2
      have hlen : us.length = ks.length := hus
      have N := Lib.hid (fun (W : World) (hb2 : Below wr.heap.size wr W) => newTerm_calls S k n us (some ⟨b, 0, none⟩) ks.length gs2 W (by omega) (by omega) (hrow2.below hb2) (hL3.below hb2) (fun x hx => HS1.out x (by have := hBw.size; have := hb2.size; omega)))
      rw [hlen] at N
      have HBW := Lib.hid hBw
      have hle := size_cnt_le (Tm.mk k n us) 600 (by omega)
      have hdm : dev (.mk k n ks) = if (Tm.mk k n us).cnt ≤ 600 then (if redexB k ks = true then some (contrT k us) else some (.mk k n us)) else none := by rw [dev_mk, hdev]
      have hall : (Tm.mk k n us).wf ∧ (Tm.mk k n us).wn ∧ (Tm.mk k n us).vb (B + 600 * 600) := by
        obtain ⟨a1, a2, a3⟩ := (show vbs (B + 600 * 600) us ∧ wfs us ∧ wns us from by
          have hkall : ∀ (i : Nat) (u : Tm), us[i]? = some u → u.vb (B + 600 * 600) ∧ u.wf ∧ u.wn := by
            intro i u hu
            have hi : i < ks.length := by
              rcases Nat.lt_or_ge i us.length with h | h
              · omega
              · rw [List.getElem?_eq_none h] at hu; cases hu
            obtain ⟨v, hv, hg⟩ := devs_get hdev i ks[i] (by simp [hi])
            rw [hu] at hg
            obtain rfl := Option.some.inj hg
            have hmem : ks[i] ∈ ks := List.getElem_mem hi
            have := cnt_mem hmem
            obtain ⟨b1, b2, b3⟩ := dev_all hB0 ks[i] u (vbs_get HVS.out _ hmem) (wfs_get HWS.out _ hmem) (wns_get HWNS.out _ hmem) hv
            exact ⟨vb_mono (by omega) _ b1, b2, b3⟩
          clear N hrow2 hL3 hL2 hdm hle hdev hus hlen
          induction us with
          | nil => simp [vbs, wfs, wns]
          | cons x l ihl =>
            have h0 := hkall 0 x rfl
            obtain ⟨l1, l2, l3⟩ := ihl (fun i u hu => hkall (i + 1) u (by simpa using hu))
            simp only [vbs, wfs, wns]
            exact ⟨⟨h0.1, l1⟩, ⟨h0.2.1, l2⟩, ⟨h0.2.2, l3⟩⟩)
        have hw := HWF.out
        have hn := HWN.out
        have hv := HVB.out
        simp only [Tm.wf] at hw ⊢
        simp only [Tm.wn] at hn ⊢
        rw [vb_mk] at hv ⊢
        rw [hlen]
        exact ⟨⟨hw.1, a2⟩, ⟨hn.1, a3⟩, fun e => by have := hv.1 e; omega, a1⟩
      have HDM := Lib.hid hdm
      have HDEV := Lib.hid hdev
      have HALL := Lib.hid hall
      clear hL2 hL3 hrow2 harr hblk hsz hlen hBw hdev hus hdm hall
      by_cases h6 : (Tm.mk k n us).cnt ≤ 600
      · have d6 : decide ((600 : Int) < (Tm.mk k n us).size) = false := decide_eq_false (by have := hle.2 h6; omega)
        cases hr : redexB k ks with
        | true =>
          have HRX := Lib.hid (redex_devs HWF.out hr HDEV.out)
          have HR0 := Lib.hid hr
          clear hle hr
          go_wp2
          go_region_with (go_at_call 93; (with_reducible refine (N.out _ (by repeat (first | exact at_ _ _ | apply ag_ | apply ah_))).mono ?_); rintro e w3 ⟨r, rfl, hg, hT, hb3⟩; have c3r := hT.size_cell; have HR := Lib.hid hT; have HB3 := Lib.hid (as_ HBW.out (as_ (show Below wr.heap.size wr _ from by repeat (first | exact at_ _ _ | apply ag_ | apply ah_)) hb3)); clear hT hb3 hg; unfold ptr)
          all_goals
            go_wp2_with fail
            refine (redex_calls S k n ks g _ HWF.out HWN.out (HTT.out.below HB3.out)).mono ?_
            rw [HR0.out]
            rintro e w4 ⟨rfl, hb4⟩
            have HB4 := Lib.hid (as_ HB3.out hb4)
            have HR4 := Lib.hid (HR.out.below hb4)
            clear hb4
            go_wp2_with fail
            refine (contract_calls S (B + 600 * 600) k n us r _ HRX.out (by omega) (by omega) HALL.out.1 HALL.out.2.1 HALL.out.2.2 (fun x hx => HS1.out x (Nat.le_trans HB4.out.size hx)) HR4.out).mono ?_
            rintro e w5 ⟨q, rfl, hq, hb5⟩
            have HQ := Lib.hid hq
            have HB5 := Lib.hid (as_ HB4.out hb5)
            clear hq hb5
            unfold ptr
            go_wp2
            go_ret
            exact DPost.of_some (by rw [HDM.out, if_pos h6, if_pos HR0.out]) HB5.out HQ.out rfl
        | false =>
          have HR0 := Lib.hid hr
          clear hle hr
          go_wp2
          go_region_with (go_at_call 93; (with_reducible refine (N.out _ (by repeat (first | exact at_ _ _ | apply ag_ | apply ah_))).mono ?_); rintro e w3 ⟨r, rfl, hg, hT, hb3⟩; have c3r := hT.size_cell; have HR := Lib.hid hT; have HB3 := Lib.hid (as_ HBW.out (as_ (show Below wr.heap.size wr _ from by repeat (first | exact at_ _ _ | apply ag_ | apply ah_)) hb3)); clear hT hb3 hg; unfold ptr)
          all_goals
            go_wp2_with fail
            refine (redex_calls S k n ks g _ HWF.out HWN.out (HTT.out.below HB3.out)).mono ?_
            rw [HR0.out]
            rintro e w4 ⟨rfl, hb4⟩
            have HB4 := Lib.hid (as_ HB3.out hb4)
            have HR4 := Lib.hid (HR.out.below hb4)
            clear hb4
            go_wp2
            go_ret
            exact DPost.of_some (by rw [HDM.out, if_pos h6, if_neg (by rw [HR0.out]; simp)]) HB4.out HR4.out rfl
      · have d6 : decide ((600 : Int) < (Tm.mk k n us).size) = true := ar_ (by have := fun x => h6 (hle.1 x); omega)
        clear hle
        go_wp2
        go_region_with (go_at_call 93; (with_reducible refine (N.out _ (by repeat (first | exact at_ _ _ | apply ag_ | apply ah_))).mono ?_); rintro e w3 ⟨r, rfl, hg, hT, hb3⟩; have c3r := hT.size_cell; have HR := Lib.hid hT; have HB3 := Lib.hid (as_ HBW.out (as_ (show Below wr.heap.size wr _ from by repeat (first | exact at_ _ _ | apply ag_ | apply ah_)) hb3)); clear hT hb3 hg; unfold ptr)
        all_goals go_wp2
        all_goals go_ret
        all_goals exact DPost.of_none (by rw [HDM.out, if_neg h6]) HB3.out rfl
def devOf (l : List S66) : List S66 × Bool := match tmof l with
  | none => ([], false)
  | some t => match dev t with
    | none => ([], false)
    | some u => goodOfT u
set_option maxRecDepth 100000 in
set_option maxHeartbeats 1000000 in
theorem DevelopTerm_calls (l : List S66) (A : Option Addr) (c : Nat) (w : World) (hr : Kd.C k66 w A l.length l) (hc : l.length ≤ c) :
    Calls Try.prog 29 #[.slice A l.length c] w (RowPost (devOf l) w) := by
  have HR := Lib.hid hr
  clear hr
  unfold devOf
  cases hq : tmof l with
  | none =>
    simp only
    have HQ := Lib.hid hq
    clear hq
    go_enter Try.func29, Try.ntmps29
    go_wp2_with fail
    refine (termOf_calls l A c _ HR.out hc).mono ?_
    rw [HQ.out]
    rintro e w1 ⟨hb1, rfl⟩
    have HB1 := Lib.hid hb1
    clear hb1
    go_wp2
    go_ret2
    exact ⟨_, rfl, Kd.R_nil _ _ _ _ _, HB1.out⟩
  | some t =>
    simp only
    have hw := tmof_wf hq
    have hn := tmof_wn hq
    have hv := tmof_vb hq
    have HQ := Lib.hid hq
    clear hq
    cases hd : dev t with
    | none =>
      simp only
      have HD := Lib.hid hd
      clear hd
      go_enter Try.func29, Try.ntmps29
      go_wp2_with fail
      refine (termOf_calls l A c _ HR.out hc).mono ?_
      rw [HQ.out]
      rintro e w1 ⟨hb1, g, rfl, ht⟩
      have HT := Lib.hid (show TAt (fun _ => True) w1 g t from TAt.step (fun _ _ _ => rfl) (fun _ _ _ => trivial) ht)
      have HB1 := Lib.hid hb1
      clear hb1 ht
      unfold ptr
      go_wp2_with fail
      refine (develop_calls 99 (by omega) (by omega) t (fun _ => True) g _ hw hn hv.1 hv.2 (fun _ _ => trivial) HT.out).mono ?_
      rw [HD.out]
      rintro e w2 ⟨hb2, rfl⟩
      have HB2 := Lib.hid (as_ HB1.out hb2)
      clear hb2
      go_wp2
      go_ret2
      exact ⟨_, rfl, Kd.R_nil _ _ _ _ _, HB2.out⟩
    | some u =>
      simp only
      have hwu := (dev_all (B := 99) (by omega) t u hv.1 hw hn hd).2.1
      have HD := Lib.hid hd
      clear hd
      go_enter Try.func29, Try.ntmps29
      go_wp2_with fail
      refine (termOf_calls l A c _ HR.out hc).mono ?_
      rw [HQ.out]
      rintro e w1 ⟨hb1, g, rfl, ht⟩
      have HT := Lib.hid (show TAt (fun _ => True) w1 g t from TAt.step (fun _ _ _ => rfl) (fun _ _ _ => trivial) ht)
      have HB1 := Lib.hid hb1
      clear hb1 ht
      unfold ptr
      go_wp2_with fail
      refine (develop_calls 99 (by omega) (by omega) t (fun _ => True) g _ hw hn hv.1 hv.2 (fun _ _ => trivial) HT.out).mono ?_
      rw [HD.out]
      rintro e w2 ⟨hb2, r, rfl, hr⟩
      have HR2 := Lib.hid hr
      have HB2 := Lib.hid (as_ HB1.out hb2)
      clear hb2 hr
      unfold ptr
      go_wp2_with (go_at_call 63; refine (good_calls (fun _ => True) _ r _ hwu HR2.out).mono ?_; rintro e w4 hpost; obtain ⟨v, rfl, hv, hb4⟩ := RowPost.lower HB2.out hpost; have HV := Lib.hid hv; have HB4 := Lib.hid hb4; clear hv hb4 hpost)
      go_ret2
      exact ⟨_, rfl, HV.out, HB4.out⟩
end Go.Proofs.Ytgoiifpimpnlpaa.PAll

end

section
namespace Go.Proofs.Ytgoiifpimpnlpaa.PAll
open Go.RowKit Go.Proofs.YtgoiifpimpnlpaaW.PrintWords Go.Proofs.YtgoiifpimpnlpaaW.PrintLast Go.Proofs.YtgoiifpimpnlpaaW.PrintMore
set_option linter.unusedVariables false
set_option linter.unusedSimpArgs false
theorem V62_away {e base : Nat} {W : World} {ok : Nat → Prop} {g : Nat} {ad : Addr} {n c : Nat} {xs : List S62} (h : Kd.V k62 e W base ok (.slice (some ad) n c) xs) (hn : 0 < n) (hok : ∀ k, ok k → k ≠ g) : some g ≠ (Value.slice (some ad) n c).ownBlock := by
  obtain ⟨A, c', hv, hl, hf⟩ := h
  injection hv with h1 h2 h3
  subst h1 h3
  subst h2
  intro he
  have hg : g = ad.block := by simpa [Value.ownBlock] using he
  obtain ⟨ad0, A2, c2, e0, p0, p1, p2, l2, g2⟩ := at_T62 (hf W (fun _ _ _ => rfl)) 0 (by omega) (by omega)
  injection e0 with e0
  subst e0
  have hb : (ad.add (Int.toNat 0 * 3)).block = ad.block := by unfold Addr.add; split <;> simp_all
  obtain ⟨ad1, A3, c3, e1, q0, q1, _⟩ := at_T62 (hf (W.setCell ⟨(ad.add (Int.toNat 0 * 3)).block, (ad.add (Int.toNat 0 * 3)).off + 1, none⟩ (.pointer none)) (fun k hk _ => Below.heap_setCell W _ _ k (by show k ≠ (ad.add (Int.toNat 0 * 3)).block; rw [hb, ← hg]; exact hok k hk))) 0 (by omega) (by omega)
  injection e1 with e1
  subst e1
  have := World.cell?_setCell_same' W ⟨(ad.add (Int.toNat 0 * 3)).block, (ad.add (Int.toNat 0 * 3)).off + 1, none⟩ (.pointer none) (by rw [p1]; rfl)
  rw [this] at q1
  cases q1
theorem l1In59_calls (n lo hi : Int) (w : World) (h0 : lo ≤ n) (h1 : n ≤ hi) : Calls Try.prog 59 #[.int .i64 n, .int .i64 lo, .int .i64 hi] w fun e w' => e = .returned (.bool true) ∧ w = w' := by
  have c0 : decide (lo ≤ n) = true := ar_ h0
  have c1 : decide (n ≤ hi) = true := ar_ h1
  clear h0 h1
  go_enter Try.func59, Try.ntmps59
  go_wp2
  go_ret
  exact ⟨rfl, rfl⟩
set_option maxRecDepth 100000 in
set_option maxHeartbeats 4000000 in
theorem k5_calls (n x y : Int) (ad A2 A3 : Option Addr) (ad0 : Addr) (c l2 l3 c2 c3 : Nat) (ln : Nat) (w : World) (hln : 1 < ln) (p0 : w.cell? ad0 = some (.int .i64 2)) (p1 : w.cell? ⟨ad0.block, ad0.off + 1, none⟩ = some (.int .i64 x)) (p2 : w.cell? ⟨ad0.block, ad0.off + 2, none⟩ = some (.slice A2 l2 c2)) (q0 : w.cell? ⟨ad0.block, ad0.off + 3, none⟩ = some (.int .i64 2)) (q1 : w.cell? ⟨ad0.block, ad0.off + 3 + 1, none⟩ = some (.int .i64 y)) (q2 : w.cell? ⟨ad0.block, ad0.off + 3 + 2, none⟩ = some (.slice A3 l3 c3)) (h0 : -1000000 ≤ x + y) (h1 : x + y ≤ 1000000) :
    Calls Try.prog 108 #[.agg #[.int .i64 5, .int .i64 n, .slice (some ad0) ln c]] w fun e w' => e = .returned (.tuple #[.agg #[.int .i64 2, .int .i64 (x + y), .slice none 0 0], .bool true]) ∧ Below w.heap.size w w' := by
  have hb := aa_ w _ p0
  have b1 : decide ((0 : Int) < (ln : Int)) = true := ar_ (by omega)
  have b2 : decide ((1 : Int) < (ln : Int)) = true := ar_ (by omega)
  have hwr : IntKind.i64.wrap (x + y) = x + y := by rw [IntKind.wrap_i64]; omega
  have B3 : ∀ o1 o2 o3, Below w.heap.size w (((w.alloc o1).alloc o2).alloc o3) := fun o1 o2 o3 => ai_ (ai_ (ai_ (at_ _ _) _) _) _
  have f0 : ∀ o1 o2 o3, (((w.alloc o1).alloc o2).alloc o3).cell? ⟨ad0.block, ad0.off + 3, none⟩ = some (.int .i64 2) := fun o1 o2 o3 => ((B3 o1 o2 o3).cell (p := ⟨ad0.block, ad0.off + 3, none⟩) hb).trans q0
  have f1 : ∀ o1 o2 o3, (((w.alloc o1).alloc o2).alloc o3).cell? ⟨ad0.block, ad0.off + 3 + 1, none⟩ = some (.int .i64 y) := fun o1 o2 o3 => ((B3 o1 o2 o3).cell (p := ⟨ad0.block, ad0.off + 3 + 1, none⟩) hb).trans q1
  have f2 : ∀ o1 o2 o3, (((w.alloc o1).alloc o2).alloc o3).cell? ⟨ad0.block, ad0.off + 3 + 2, none⟩ = some (.slice A3 l3 c3) := fun o1 o2 o3 => ((B3 o1 o2 o3).cell (p := ⟨ad0.block, ad0.off + 3 + 2, none⟩) hb).trans q2
  clear B3
  go_enter Try.func108, Try.ntmps108
  go_wp2_with (go_at_call 59; (try rw [hwr]); refine (l1In59_calls _ _ _ _ h0 h1).mono ?_; rintro e w' ⟨rfl, rfl⟩)
  refine bodyPost_ret (results_ct rfl _ _ (w.heap.size + 1) 62 #[.int .i64 2, .int .i64 (x + y), .slice none 0 0] (0, 0) _ rfl (ad_ (ad_ (by simpa using blk_new (w.alloc (.cells #[.int .i64 5, .int .i64 n, .slice (some ad0) ln c] 62)) (.cells #[.int .i64 2, .int .i64 (x + y), .slice none 0 0] 62)) _) _) Try.underlying62 rfl (by kernel_rfl)) rfl ?_
  exact ⟨rfl, ai_ (ai_ (ai_ (ai_ (at_ _ _) _) _) _) _⟩
theorem k5_use {P0 : Nat → Prop} {A : Option Addr} {c : Nat} {l : List S62} {n r1 r2 : Int} {r3 : List S62} {r4 : Bool} {w : World} (hs : Kd.V k62 62 w w.heap.size (fun k_ => P0 k_) (.slice A l.length c) l) (d1 : 1 < (l.length : Int))
    (d2 : ((rd_T62 l 0).f0) = 2 ∧ ((rd_T62 l 1).f0) = 2 ∧ -1000000 ≤ ((rd_T62 l 0).f1) + ((rd_T62 l 1).f1) ∧ ((rd_T62 l 0).f1) + ((rd_T62 l 1).f1) ≤ 1000000) (H : some ((2 : Int), ((rd_T62 l 0).f1) + ((rd_T62 l 1).f1), ([] : List S62), true) = some (r1, r2, r3, r4)) :
    Calls Try.prog 108 #[.agg #[.int .i64 5, .int .i64 n, .slice A l.length c]] w fun e w' => ∃ v2_ : Value, e = .returned (.tuple #[.agg #[.int .i64 r1, .int .i64 r2, v2_], .bool r4]) ∧ Kd.V k62 62 w' w.heap.size (fun k_ => (P0 k_ ∨ w.heap.size ≤ k_)) v2_ r3 ∧ Below w.heap.size w w' := by
  obtain ⟨e0, e1, s0, s1⟩ := d2
  simp only [Option.some.injEq, Prod.mk.injEq] at H
  obtain ⟨rfl, rfl, rfl, rfl⟩ := H
  obtain ⟨A', c', hv, hl, hf⟩ := hs
  injection hv with h1 h2 h3
  subst h1
  have hC := Kd.F_now hf
  obtain ⟨ad, A2, c2, rfl, p0, p1, p2, _, _⟩ := at_T62 hC 0 (by omega) (by omega)
  obtain ⟨ad', A3, c3, e', q0, q1, q2, _, _⟩ := at_T62 hC 1 (by omega) (by omega)
  injection e' with e'
  subst e'
  rw [show ad.add (Int.toNat 0 * 3) = ad by simp [Addr.add]] at p0 p1 p2
  rw [e0] at p0
  rw [e1] at q0
  refine (k5_calls n ((rd_T62 l 0).f1) ((rd_T62 l 1).f1) none A2 A3 ad c _ _ c2 c3 l.length w (by omega) p0 p1 p2 q0 q1 q2 s0 s1).mono ?_
  rintro e w' ⟨rfl, hb⟩
  exact ⟨_, rfl, Kd.V_nil _ _ _ _ _, hb⟩
end Go.Proofs.Ytgoiifpimpnlpaa.PAll

end

section
namespace Go.Proofs.Ytgoiifpimpnlpaa.PAll
open Go.RowKit Go.Proofs.YtgoiifpimpnlpaaW.PrintWords Go.Proofs.YtgoiifpimpnlpaaW.PrintLast Go.Proofs.YtgoiifpimpnlpaaW.PrintMore
attribute [local go_sem] max2_int min2_int max_two min_two max_three min_three max_four min_four   -- for this text's walks alone
set_option linter.unusedVariables false
set_option linter.unusedSimpArgs false
def spec_l4Contract.f (k : Nat) (a0_0 : Int) (a0_1 : Int) (l0_2 : List (S62)) : Option (Int × Int × (List (S62)) × Bool) := if a0_0 = 4 then (if 0 < (l0_2.length : Int) then (if ((rd_T62 l0_2 0).f0) = 3 then (if 0 < (((rd_T62 l0_2 0).f2).length : Int) then (if 1 < (l0_2.length : Int) then ((spec_l3Put.f k ((rd_T62 ((rd_T62 l0_2 0).f2) 0).f0) ((rd_T62 ((rd_T62 l0_2 0).f2) 0).f1) ((rd_T62 ((rd_T62 l0_2 0).f2) 0).f2) 0 ((rd_T62 l0_2 1).f0) ((rd_T62 l0_2 1).f1) ((rd_T62 l0_2 1).f2)).bind fun bt477 => (some (bt477.1, bt477.2.1, bt477.2.2.1, bt477.2.2.2))) else (none)) else (none)) else (some (0, 0, ([] : List (S62)), false))) else (none)) else (if a0_0 = 7 then (if 1 < (l0_2.length : Int) then (if 0 < (l0_2.length : Int) then ((spec_l3Put.f k ((rd_T62 l0_2 1).f0) ((rd_T62 l0_2 1).f1) ((rd_T62 l0_2 1).f2) 0 ((rd_T62 l0_2 0).f0) ((rd_T62 l0_2 0).f1) ((rd_T62 l0_2 0).f2)).bind fun bt485 => (some (bt485.1, bt485.2.1, bt485.2.2.1, bt485.2.2.2))) else (none)) else (none)) else (if a0_0 = 5 then (if 1 < (l0_2.length : Int) then (if ((rd_T62 l0_2 0).f0) = 2 ∧ ((rd_T62 l0_2 1).f0) = 2 ∧ -1000000 ≤ ((rd_T62 l0_2 0).f1) + ((rd_T62 l0_2 1).f1) ∧ ((rd_T62 l0_2 0).f1) + ((rd_T62 l0_2 1).f1) ≤ 1000000 then (some (2, ((rd_T62 l0_2 0).f1) + ((rd_T62 l0_2 1).f1), ([] : List (S62)), true)) else (none)) else (none)) else (if a0_0 = 6 then (if 0 < (l0_2.length : Int) then (if ((rd_T62 l0_2 0).f0) = 2 then (if ((rd_T62 l0_2 0).f1) = 0 then (if 1 < (l0_2.length : Int) then (some ((rd_T62 l0_2 1).f0, (rd_T62 l0_2 1).f1, (rd_T62 l0_2 1).f2, true)) else (none)) else (if 2 < (l0_2.length : Int) then (some ((rd_T62 l0_2 2).f0, (rd_T62 l0_2 2).f1, (rd_T62 l0_2 2).f2, true)) else (none))) else (some (0, 0, ([] : List (S62)), false))) else (none)) else (some (0, 0, ([] : List (S62)), false)))))
def spec_l4Contract.T4 : Bool × List (List Nat × List Nat) := (true, [([], []), ([0], [0]), ([1], [1]), ([2], [2]), ([3], [3]), ([4], [4]), ([5], [5]), ([], []), ([7], [7]), ([8], [8]), ([9], [9]), ([6, 10], [6, 10]), ([11], [11]), ([11], [11]), ([12, 11, 0, 1, 2, 3, 4, 5, 6, 7, 8, 9, 10, 11, 12, 13], [12]), ([13, 14, 0, 1, 2, 3, 4, 5, 6, 7, 8, 9, 10, 11, 12, 13, 14], [13])])
def spec_l4Contract.B4 : List Nat := [0, 1, 3, 7, 15, 31, 63, 0, 128, 384, 896, 2047, 4095, 4095, 16383, 32767]
theorem spec_l4Contract.tab4 : rtab .any (opsOf Try.f108 4) = spec_l4Contract.T4 := by kernel_rfl
theorem spec_l4Contract.bits4 : waitsOk spec_l4Contract.T4.2 spec_l4Contract.B4 = true := by kernel_rfl
def spec_l4Contract.T6 : Bool × List (List Nat × List Nat) := (true, [([], []), ([0], [0]), ([1], [1]), ([2], [2]), ([], []), ([4], [4]), ([5], [5]), ([6], [6]), ([3, 7], [3, 7]), ([8], [8]), ([8], [8]), ([9, 8, 0, 1, 2, 3, 4, 5, 6, 7, 8, 9, 10], [9]), ([10, 11, 0, 1, 2, 3, 4, 5, 6, 7, 8, 9, 10, 11], [10])])
def spec_l4Contract.B6 : List Nat := [0, 1, 3, 7, 0, 16, 48, 112, 255, 511, 511, 2047, 4095]
theorem spec_l4Contract.tab6 : rtab .any (opsOf Try.f108 6) = spec_l4Contract.T6 := by kernel_rfl
theorem spec_l4Contract.bits6 : waitsOk spec_l4Contract.T6.2 spec_l4Contract.B6 = true := by kernel_rfl
set_option maxHeartbeats 8000000 in
set_option maxRecDepth 100000 in
theorem spec_l4Contract.calls (k : Nat) (a0_0 : Int) (a0_1 : Int) (P0_2_ : Nat → Prop) (A0_2 : Option Addr) (c0_2 : Nat) (l0_2 : List (S62)) (r1 : Int) (r2 : Int) (r3 : List (S62)) (r4 : Bool) (w : World) (hs0_2 : Kd.V k62 62 w w.heap.size (fun k_ => P0_2_ k_) (.slice A0_2 l0_2.length c0_2) l0_2) (h : spec_l4Contract.f k a0_0 a0_1 l0_2 = some (r1, r2, r3, r4)) :
    Calls Try.prog 108 #[.agg #[.int .i64 a0_0, .int .i64 a0_1, .slice A0_2 l0_2.length c0_2]] w fun e w' => ∃ v2_ : Value, e = .returned (.tuple #[.agg #[.int .i64 r1, .int .i64 r2, v2_], .bool r4]) ∧ Kd.V k62 62 w' w.heap.size (fun k_ => (P0_2_ k_ ∨ w.heap.size ≤ k_)) v2_ r3 ∧ Below w.heap.size w w' := by
  have hu62 := Try.underlying62
  have HO0_2 := ab_ (show Kd.V k62 62 w w.heap.size (fun k_ => (P0_2_ k_ ∨ w.heap.size ≤ k_)) (.slice A0_2 l0_2.length c0_2) l0_2 from Kd.V_mono hs0_2 (fun k_ hk => .inl hk))
  have HB := ab_ (at_ w.heap.size w)
  have H : (if a0_0 = 4 then (if 0 < (l0_2.length : Int) then (if ((rd_T62 l0_2 0).f0) = 3 then (if 0 < (((rd_T62 l0_2 0).f2).length : Int) then (if 1 < (l0_2.length : Int) then ((spec_l3Put.f k ((rd_T62 ((rd_T62 l0_2 0).f2) 0).f0) ((rd_T62 ((rd_T62 l0_2 0).f2) 0).f1) ((rd_T62 ((rd_T62 l0_2 0).f2) 0).f2) 0 ((rd_T62 l0_2 1).f0) ((rd_T62 l0_2 1).f1) ((rd_T62 l0_2 1).f2)).bind fun bt477 => (some (bt477.1, bt477.2.1, bt477.2.2.1, bt477.2.2.2))) else (none)) else (none)) else (some (0, 0, ([] : List (S62)), false))) else (none)) else (if a0_0 = 7 then (if 1 < (l0_2.length : Int) then (if 0 < (l0_2.length : Int) then ((spec_l3Put.f k ((rd_T62 l0_2 1).f0) ((rd_T62 l0_2 1).f1) ((rd_T62 l0_2 1).f2) 0 ((rd_T62 l0_2 0).f0) ((rd_T62 l0_2 0).f1) ((rd_T62 l0_2 0).f2)).bind fun bt485 => (some (bt485.1, bt485.2.1, bt485.2.2.1, bt485.2.2.2))) else (none)) else (none)) else (if a0_0 = 5 then (if 1 < (l0_2.length : Int) then (if ((rd_T62 l0_2 0).f0) = 2 ∧ ((rd_T62 l0_2 1).f0) = 2 ∧ -1000000 ≤ ((rd_T62 l0_2 0).f1) + ((rd_T62 l0_2 1).f1) ∧ ((rd_T62 l0_2 0).f1) + ((rd_T62 l0_2 1).f1) ≤ 1000000 then (some (2, ((rd_T62 l0_2 0).f1) + ((rd_T62 l0_2 1).f1), ([] : List (S62)), true)) else (none)) else (none)) else (if a0_0 = 6 then (if 0 < (l0_2.length : Int) then (if ((rd_T62 l0_2 0).f0) = 2 then (if ((rd_T62 l0_2 0).f1) = 0 then (if 1 < (l0_2.length : Int) then (some ((rd_T62 l0_2 1).f0, (rd_T62 l0_2 1).f1, (rd_T62 l0_2 1).f2, true)) else (none)) else (if 2 < (l0_2.length : Int) then (some ((rd_T62 l0_2 2).f0, (rd_T62 l0_2 2).f1, (rd_T62 l0_2 2).f2, true)) else (none))) else (some (0, 0, ([] : List (S62)), false))) else (none)) else (some (0, 0, ([] : List (S62)), false)))))) = some (r1, r2, r3, r4) := h
  clear h
  by_cases c2 : a0_0 = 4
  · rw [if_pos c2] at H
    have c2b0 : (a0_0 == 4) = true := beq_iff_eq.mpr c2
    have c2b1 : (a0_0 != 4) = false := bne_eq_false_iff_eq.mpr c2
    clear c2
    by_cases c3 : 0 < (l0_2.length : Int)
    · rw [if_pos c3] at H
      have c3b0 : decide (0 < (l0_2.length : Int)) = true := ar_ c3
      have c3b1 : decide (0 < l0_2.length) = true := ar_ (by omega)
      have HN62 : 0 < l0_2.length := by omega
      clear c3
      by_cases c4 : ((rd_T62 l0_2 0).f0) = 3
      · rw [if_pos c4] at H
        have c4b0 : (((rd_T62 l0_2 0).f0) == 3) = true := beq_iff_eq.mpr c4
        have c4b1 : (((rd_T62 l0_2 0).f0) != 3) = false := bne_eq_false_iff_eq.mpr c4
        clear c4
        by_cases c5 : 0 < (((rd_T62 l0_2 0).f2).length : Int)
        · rw [if_pos c5] at H
          have c5b0 : decide (0 < (((rd_T62 l0_2 0).f2).length : Int)) = true := ar_ c5
          have c5b1 : decide (0 < ((rd_T62 l0_2 0).f2).length) = true := ar_ (by omega)
          have HN63 : 0 < ((rd_T62 l0_2 0).f2).length := by omega
          clear c5
          by_cases c6 : 1 < (l0_2.length : Int)
          · rw [if_pos c6] at H
            have c6b0 : decide (1 < (l0_2.length : Int)) = true := ar_ c6
            have c6b1 : decide (1 < l0_2.length) = true := ar_ (by omega)
            clear c6
            replace H := Option.bind_eq_some_iff.mp H
            obtain ⟨⟨t477, t478, t479, t482⟩, A70, H⟩ := H
            replace H : (some (t477, t478, t479, t482)) = some (r1, r2, r3, r4) := H
            have A7 := ab_ A70
            clear A70
            simp only [Option.some.injEq, Prod.mk.injEq] at H
            obtain ⟨rfl, rfl, rfl, rfl⟩ := H
            go_enter Try.func108, Try.ntmps108
            try go_wp2_with (first | ((with_reducible refine gate_dst (N := 1) rfl ?_); refine box_event ?hg (N := 1) ?hd (cs := #[.int .i64 a0_0, .int .i64 a0_1, .slice A0_2 l0_2.length c0_2]) (t := 62) ?hr ?_; (case hd => rfl); (case hg => rfl); (case hr => first | (go_simp; done) | (go_simp; rfl)); intro gb471 hg w8 hbox hb; have n0_ := ab_ (Kd.V_below (Kd.V_elderB (by (with_reducible repeat (first | apply Kd.V_alloc | apply Kd.V_drewN | apply Kd.V_drew)); exact HO0_2.out) gb471 (Nat.le_of_eq hg.symm)) hb); have n1_ := ab_ (as_ (by repeat (first | (with_reducible first | exact HB.out | apply ai_ | apply ag_ | apply ah_) | exact HB.out)) hb); have n2_ := ab_ (hbox); have n3_ := ab_ ((by rw [hg]; exact (below_size (by repeat (first | (with_reducible first | exact HB.out | apply ai_ | apply ag_ | apply ah_) | exact HB.out))) : w.heap.size ≤ gb471)); have n4_ := ab_ ((by rw [hg]; exact (below_size (by repeat (first | (with_reducible first | exact HB.out | apply ai_ | apply ag_ | apply ah_) | exact HB.out))) : w.heap.size ≤ gb471)); clear HO0_2; clear HB; have HO0_2 := n0_; have HB := n1_; have BK471 := n2_; have GW471 := n3_; have GE471 := n4_; clear n0_ n1_ n2_ n3_ n4_; clear hb hbox hg) | ((with_reducible refine gate_dst (N := 2) rfl ?_); refine box_event ?hg (N := 2) ?hd (cs := #[.int .i64 0, .int .i64 0, .slice none 0 0]) (t := 62) ?hr ?_; (case hd => rfl); (case hg => rfl); (case hr => first | (go_simp; done) | (go_simp; rfl)); intro gb472 hg w9 hbox hb; have n0_ := ab_ (Kd.V_below (Kd.V_elderB (by (with_reducible repeat (first | apply Kd.V_alloc | apply Kd.V_drewN | apply Kd.V_drew)); exact HO0_2.out) gb472 (Nat.le_of_eq hg.symm)) hb); have n1_ := ab_ (blk_below (g := gb471) (o := .cells #[.int .i64 a0_0, .int .i64 a0_1, .slice A0_2 l0_2.length c0_2] 62 (0, 0)) (by (with_reducible repeat (first | refine ac_ ?_ _ | refine ae_ ?_ | refine ad_ ?_ _)); exact BK471.out) hb); have n2_ := ab_ (as_ (by repeat (first | (with_reducible first | exact HB.out | apply ai_ | apply ag_ | apply ah_ | refine af_ ?_ GE471.out) | exact HB.out)) hb); have n3_ := ab_ (hbox); have n4_ := ab_ ((by rw [hg]; exact (below_size (by repeat (first | (with_reducible first | exact HB.out | apply ai_ | apply ag_ | apply ah_ | refine af_ ?_ GE471.out) | exact HB.out))) : w.heap.size ≤ gb472)); have n5_ := ab_ ((by rw [hg]; exact (below_size (by repeat (first | (with_reducible first | exact HB.out | apply ai_ | apply ag_ | apply ah_ | refine af_ ?_ GE471.out) | exact HB.out))) : w.heap.size ≤ gb472)); have n6_ := ab_ ((by rw [hg]; exact ak_ (blk_lt (g := gb471) (o := .cells #[.int .i64 a0_0, .int .i64 a0_1, .slice A0_2 l0_2.length c0_2] 62 (0, 0)) (by (with_reducible repeat (first | refine ac_ ?_ _ | refine ae_ ?_ | refine ad_ ?_ _)); exact BK471.out)) : gb471 ≠ gb472)); have n7_ := ab_ ((by rw [hg]; exact Nat.ne_of_gt (blk_lt (g := gb471) (o := .cells #[.int .i64 a0_0, .int .i64 a0_1, .slice A0_2 l0_2.length c0_2] 62 (0, 0)) (by (with_reducible repeat (first | refine ac_ ?_ _ | refine ae_ ?_ | refine ad_ ?_ _)); exact BK471.out)) : gb472 ≠ gb471)); clear HO0_2; clear BK471; clear HB; have HO0_2 := n0_; have BK471 := n1_; have HB := n2_; have BK472 := n3_; have GW472 := n4_; have GE472 := n5_; have NB471_472 := n6_; have NB472_471 := n7_; clear n0_ n1_ n2_ n3_ n4_ n5_ n6_ n7_; clear hb hbox hg; have hnb10 := NB471_472.out; have hnc10 := NB472_471.out; have hcz11_0 : w9.cell? ⟨gb471, 0, none⟩ = some (.int .i64 a0_0) := (an_ BK471.out 0).trans rfl; have hcz11_1 : w9.cell? ⟨gb471, 1, none⟩ = some (.int .i64 a0_1) := (an_ BK471.out 1).trans rfl; have hcz11_2 : w9.cell? ⟨gb471, 2, none⟩ = some (.slice A0_2 l0_2.length c0_2) := (an_ BK471.out 2).trans rfl; have hfz11_0 := am_ BK471.out 0; have hfz11_1 := am_ BK471.out 1; have hfz11_2 := am_ BK471.out 2; have p473 : 0 ≤ (0 : Int) := (by omega); have q473 : 0 < (l0_2.length : Int) := of_decide_eq_true (by first | (with_reducible assumption) | assumption); obtain ⟨ad473, A473_2, c473_2, e473, hx473_0, hx473_1, hx473_2, hl473_2, hi473_2⟩ := at_T62 (Kd.V_reads' HO0_2.out).2.2 0 p473 q473; cases e473; obtain ⟨ce473, hce473, hMe473, hcc473⟩ := Kd.V_get HO0_2.out z62 0 p473 (by first | exact q473 | exact of_decide_eq_true (by first | (with_reducible assumption) | assumption) | (have e_ := (Kd.V_reads' HO0_2.out).1; omega)); obtain ⟨ua473_2, uc473_2, rfl, ul473_2, ge473_2⟩ := k62_openF hMe473; have hv473_2 := hcc473 2 _ rfl; rw [add_field _ _ 2 (by omega)] at hv473_2; replace hv473_2 := Option.some.inj (hv473_2.symm.trans hx473_2); injection hv473_2 with hva_ hvn_ hvc_; rw [hva_] at ge473_2; rw [hvc_] at ul473_2; have HL473_2 := ab_ (show Kd.V k62 62 _ w.heap.size _ _ ((rd_T62 l0_2 0).f2) from Kd.V_mk ul473_2 ge473_2); clear hva_ hvn_ hvc_ ge473_2 ul473_2; clear hcc473 hce473; have qi473 : (0 < l0_2.length) = True := eq_true (by omega); (try rw [show ((0 : Int)).toNat = 0 from rfl] at hx473_0); (try rw [show 0 * 3 = 0 from rfl] at hx473_0); (try rw [Addr.add_zero'] at hx473_0); (try rw [show ((0 : Int)).toNat = 0 from rfl] at hx473_1); (try rw [show 0 * 3 = 0 from rfl] at hx473_1); (try rw [Addr.add_zero'] at hx473_1); (try rw [show ((0 : Int)).toNat = 0 from rfl] at hx473_2); (try rw [show 0 * 3 = 0 from rfl] at hx473_2); (try rw [Addr.add_zero'] at hx473_2); have HR473_2 := ab_ hi473_2; have HC473_2 := ab_ hl473_2; clear hi473_2 hl473_2; replace p473 := eq_true p473; replace q473 := eq_true q473))
            have n0_ := ab_ (Kd.V_drew HO0_2.out)
            have n1_ := ab_ (Kd.V_drew HL473_2.out)
            have n2_ := ab_ (ae_ BK471.out)
            have n3_ := ab_ (ae_ BK472.out)
            have n4_ := ab_ (Kd.C_drew HR473_2.out)
            have n5_ := ab_ (ah_ HB.out)
            clear HO0_2
            clear HL473_2
            clear BK471
            clear BK472
            clear HR473_2
            clear HB
            have HO0_2 := n0_
            have HL473_2 := n1_
            have BK471 := n2_
            have BK472 := n3_
            have HR473_2 := n4_
            have HB := n5_
            clear n0_ n1_ n2_ n3_ n4_ n5_
            have p474 : 0 ≤ (0 : Int) := (by omega)
            have q474 : 0 < (l0_2.length : Int) := of_decide_eq_true (by first | (with_reducible assumption) | assumption)
            obtain ⟨ad474, A474_2, c474_2, e474, hx474_0, hx474_1, hx474_2, hl474_2, hi474_2⟩ := at_T62 (Kd.V_reads' HO0_2.out).2.2 0 p474 q474
            obtain rfl : ad473 = ad474 := (by injection e474)
            obtain ⟨ce474, hce474, hMe474, hcc474⟩ := Kd.V_get HO0_2.out z62 0 p474 (by first | exact q474 | exact of_decide_eq_true (by first | (with_reducible assumption) | assumption) | (have e_ := (Kd.V_reads' HO0_2.out).1; omega))
            obtain ⟨ua474_2, uc474_2, rfl, ul474_2, ge474_2⟩ := k62_openF hMe474
            have hv474_2 := hcc474 2 _ rfl
            rw [add_field _ _ 2 (by omega)] at hv474_2
            replace hv474_2 := Option.some.inj (hv474_2.symm.trans hx474_2)
            injection hv474_2 with hva_ hvn_ hvc_
            rw [hva_] at ge474_2
            rw [hvc_] at ul474_2
            have HL474_2 := ab_ (show Kd.V k62 62 _ w.heap.size _ _ ((rd_T62 l0_2 0).f2) from Kd.V_mk ul474_2 ge474_2)
            clear hva_ hvn_ hvc_ ge474_2 ul474_2
            clear hcc474 hce474
            have qi474 : (0 < l0_2.length) = True := eq_true (by omega)
            (try rw [show ((0 : Int)).toNat = 0 from rfl] at hx474_0)
            (try rw [show 0 * 3 = 0 from rfl] at hx474_0)
            (try rw [Addr.add_zero'] at hx474_0)
            (try rw [show ((0 : Int)).toNat = 0 from rfl] at hx474_1)
            (try rw [show 0 * 3 = 0 from rfl] at hx474_1)
            (try rw [Addr.add_zero'] at hx474_1)
            (try rw [show ((0 : Int)).toNat = 0 from rfl] at hx474_2)
            (try rw [show 0 * 3 = 0 from rfl] at hx474_2)
            (try rw [Addr.add_zero'] at hx474_2)
            have HR474_2 := ab_ hi474_2
            have HC474_2 := ab_ hl474_2
            clear hi474_2 hl474_2
            replace p474 := eq_true p474
            replace q474 := eq_true q474
            have p475 : 0 ≤ (0 : Int) := (by omega)
            have q475 : 0 < (((rd_T62 l0_2 0).f2).length : Int) := of_decide_eq_true (by first | (with_reducible assumption) | assumption)
            obtain ⟨ad475, A475_2, c475_2, e475, hx475_0, hx475_1, hx475_2, hl475_2, hi475_2⟩ := at_T62 (by repeat (first | (with_reducible exact HR474_2.out) | (with_reducible refine Kd.C_alloc ?_ _) | (with_reducible refine Kd.C_drewN ?_ _) | (with_reducible refine Kd.C_drew ?_) | exact HR474_2.out)) 0 p475 q475
            cases e475
            obtain ⟨ce475, hce475, hMe475, hcc475⟩ := Kd.V_get HL474_2.out z62 0 p475 (by first | exact q475 | exact of_decide_eq_true (by first | (with_reducible assumption) | assumption) | (have e_ := (Kd.V_reads' HL474_2.out).1; omega))
            obtain ⟨ua475_2, uc475_2, rfl, ul475_2, ge475_2⟩ := k62_openF hMe475
            have hv475_2 := hcc475 2 _ rfl
            rw [add_field _ _ 2 (by omega)] at hv475_2
            replace hv475_2 := Option.some.inj (hv475_2.symm.trans hx475_2)
            injection hv475_2 with hva_ hvn_ hvc_
            rw [hva_] at ge475_2
            rw [hvc_] at ul475_2
            have HL475_2 := ab_ (show Kd.V k62 62 _ w.heap.size _ _ ((rd_T62 ((rd_T62 l0_2 0).f2) 0).f2) from Kd.V_mk ul475_2 ge475_2)
            clear hva_ hvn_ hvc_ ge475_2 ul475_2
            clear hcc475 hce475
            have qi475 : (0 < ((rd_T62 l0_2 0).f2).length) = True := eq_true (by omega)
            (try rw [show ((0 : Int)).toNat = 0 from rfl] at hx475_0)
            (try rw [show 0 * 3 = 0 from rfl] at hx475_0)
            (try rw [Addr.add_zero'] at hx475_0)
            (try rw [show ((0 : Int)).toNat = 0 from rfl] at hx475_1)
            (try rw [show 0 * 3 = 0 from rfl] at hx475_1)
            (try rw [Addr.add_zero'] at hx475_1)
            (try rw [show ((0 : Int)).toNat = 0 from rfl] at hx475_2)
            (try rw [show 0 * 3 = 0 from rfl] at hx475_2)
            (try rw [Addr.add_zero'] at hx475_2)
            have HR475_2 := ab_ hi475_2
            have HC475_2 := ab_ hl475_2
            clear hi475_2 hl475_2
            replace p475 := eq_true p475
            replace q475 := eq_true q475
            have p476 : 0 ≤ (1 : Int) := (by omega)
            have q476 : 1 < (l0_2.length : Int) := of_decide_eq_true (by first | (with_reducible assumption) | assumption)
            obtain ⟨ad476, A476_2, c476_2, e476, hx476_0, hx476_1, hx476_2, hl476_2, hi476_2⟩ := at_T62 (Kd.V_reads' HO0_2.out).2.2 1 p476 q476
            obtain rfl : ad473 = ad476 := (by injection e476)
            obtain ⟨ce476, hce476, hMe476, hcc476⟩ := Kd.V_get HO0_2.out z62 1 p476 (by first | exact q476 | exact of_decide_eq_true (by first | (with_reducible assumption) | assumption) | (have e_ := (Kd.V_reads' HO0_2.out).1; omega))
            obtain ⟨ua476_2, uc476_2, rfl, ul476_2, ge476_2⟩ := k62_openF hMe476
            have hv476_2 := hcc476 2 _ rfl
            rw [add_field _ _ 2 (by omega)] at hv476_2
            replace hv476_2 := Option.some.inj (hv476_2.symm.trans hx476_2)
            injection hv476_2 with hva_ hvn_ hvc_
            rw [hva_] at ge476_2
            rw [hvc_] at ul476_2
            have HL476_2 := ab_ (show Kd.V k62 62 _ w.heap.size _ _ ((rd_T62 l0_2 1).f2) from Kd.V_mk ul476_2 ge476_2)
            clear hva_ hvn_ hvc_ ge476_2 ul476_2
            clear hcc476 hce476
            (try simp only [show (1 : Int).toNat = 1 from rfl, Nat.reduceMul, Nat.reduceEqDiff, Go.Addr.add, ↓reduceIte] at hx476_0)
            (try simp only [show (1 : Int).toNat = 1 from rfl, Nat.reduceMul, Nat.reduceEqDiff, Go.Addr.add, ↓reduceIte] at hx476_1)
            (try simp only [show (1 : Int).toNat = 1 from rfl, Nat.reduceMul, Nat.reduceEqDiff, Go.Addr.add, ↓reduceIte] at hx476_2)
            have qi476 : (1 < l0_2.length) = True := eq_true (by omega)
            (try rw [show ((1 : Int)).toNat = 1 from rfl] at hx476_0)
            (try rw [show 1 * 3 = 3 from rfl] at hx476_0)
            (try rw [show ((1 : Int)).toNat = 1 from rfl] at hx476_1)
            (try rw [show 1 * 3 = 3 from rfl] at hx476_1)
            (try rw [show ((1 : Int)).toNat = 1 from rfl] at hx476_2)
            (try rw [show 1 * 3 = 3 from rfl] at hx476_2)
            have HR476_2 := ab_ hi476_2
            have HC476_2 := ab_ hl476_2
            clear hi476_2 hl476_2
            replace p476 := eq_true p476
            replace q476 := eq_true q476
            refine start_ (n := 16) (S := fun w' => w'.cell? ⟨gb471, 0, none⟩ = some (.int .i64 a0_0) ∧ w'.cell? ⟨gb471, 1, none⟩ = some (.int .i64 a0_1) ∧ w'.cell? ⟨gb471, 2, none⟩ = some (.slice (some ad473) l0_2.length c0_2) ∧ w'.cell? ad473 = some (.int .i64 ((rd_T62 l0_2 0).f0)) ∧ w'.cell? ⟨ad473.block, ad473.off + 1, none⟩ = some (.int .i64 ((rd_T62 l0_2 0).f1)) ∧ w'.cell? ⟨ad473.block, ad473.off + 2, none⟩ = some (.slice (some ad475) ((rd_T62 l0_2 0).f2).length c474_2) ∧ w'.cell? ad475 = some (.int .i64 ((rd_T62 ((rd_T62 l0_2 0).f2) 0).f0)) ∧ w'.cell? ⟨ad475.block, ad475.off + 1, none⟩ = some (.int .i64 ((rd_T62 ((rd_T62 l0_2 0).f2) 0).f1)) ∧ w'.cell? ⟨ad475.block, ad475.off + 2, none⟩ = some (.slice A475_2 ((rd_T62 ((rd_T62 l0_2 0).f2) 0).f2).length c475_2) ∧ w'.cell? ⟨ad473.block, ad473.off + 3, none⟩ = some (.int .i64 ((rd_T62 l0_2 1).f0)) ∧ w'.cell? ⟨ad473.block, ad473.off + 3 + 1, none⟩ = some (.int .i64 ((rd_T62 l0_2 1).f1)) ∧ w'.cell? ⟨ad473.block, ad473.off + 3 + 2, none⟩ = some (.slice A476_2 ((rd_T62 l0_2 1).f2).length c476_2)) (ds := []) #[false, false, false, false, false, false, false, false, false, false, false, false, false, false, false, false] (by kernel_rfl) rfl rfl ⟨(an_ BK471.out 0).trans rfl, (an_ BK471.out 1).trans rfl, (an_ BK471.out 2).trans rfl, hx474_0, hx474_1, hx474_2, hx475_0, hx475_1, hx475_2, hx476_0, hx476_1, hx476_2⟩ (fun hHeld => ?_); refine with_tabW spec_l4Contract.tab4 spec_l4Contract.bits4 (fun HT_ HW_ => ?_)
            generalize w9.drew = w12 at HO0_2 HL473_2 BK471 BK472 HR473_2 HB HL474_2 HL475_2 HL476_2 HR474_2 HR475_2 HR476_2 hx474_0 hx474_1 hx474_2 hx475_0 hx475_1 hx475_2 hx476_0 hx476_1 hx476_2 hHeld ⊢
            refine pure_ (i := 0) (N := some 16) (v := ?_) (a' := ?_) #[true, false, false, false, false, false, false, false, false, false, false, false, false, false, false, false] rfl rfl (any_of HT_.out (by kernel_rfl)) (fun _ _ _ h => h) (Or.inl ⟨by rfl, ?_⟩) ?_ ?_
            rotate_left
            · intro w'
              go_simp
              with_reducible rfl
            rotate_left
            · simp only [Act.put, List.setIfInBounds_toArray, List.set_cons_zero, List.set_cons_succ, i64_w, i32_w]
              rfl
            refine pure_ (i := 7) (N := some 23) (v := ?_) (a' := ?_) #[true, false, false, false, false, false, false, true, false, false, false, false, false, false, false, false] rfl rfl (any_of HT_.out (by kernel_rfl)) (fun _ _ _ h => h) (Or.inl ⟨by rfl, ?_⟩) ?_ ?_
            rotate_left
            · intro w'
              go_simp
              with_reducible rfl
            rotate_left
            · simp only [Act.put, List.setIfInBounds_toArray, List.set_cons_zero, List.set_cons_succ, i64_w, i32_w]
              rfl
            refine take_ (i := 1) (N := some 17) (v := ?_) (a' := ?_) #[true, true, false, false, false, false, false, true, false, false, false, false, false, false, false, false] rfl rfl (take_ofW HT_.out HW_.out (by kernel_rfl)) (fun _ _ _ h => h) (Or.inl ⟨by rfl, ?_⟩) hHeld ?_ ?_
            rotate_left
            · rintro w' ⟨s0, s1, s2, s3, s4, s5, s6, s7, s8, s9, s10, s11⟩
              go_simp
              with_reducible rfl
            rotate_left
            · simp only [Act.put, List.setIfInBounds_toArray, List.set_cons_zero, List.set_cons_succ, i64_w, i32_w]
              rfl
            refine pure_ (i := 2) (N := some 18) (v := ?_) (a' := ?_) #[true, true, true, false, false, false, false, true, false, false, false, false, false, false, false, false] rfl rfl (any_of HT_.out (by kernel_rfl)) (fun _ _ _ h => h) (Or.inl ⟨by rfl, ?_⟩) ?_ ?_
            rotate_left
            · intro w'
              go_simp
              with_reducible rfl
            rotate_left
            · simp only [Act.put, List.setIfInBounds_toArray, List.set_cons_zero, List.set_cons_succ, i64_w, i32_w]
              rfl
            refine pure_ (i := 3) (N := some 19) (v := ?_) (a' := ?_) #[true, true, true, true, false, false, false, true, false, false, false, false, false, false, false, false] rfl rfl (any_of HT_.out (by kernel_rfl)) (fun _ _ _ h => h) (Or.inl ⟨by rfl, ?_⟩) ?_ ?_
            rotate_left
            · intro w'
              go_simp
              with_reducible rfl
            rotate_left
            · simp only [Act.put, List.setIfInBounds_toArray, List.set_cons_zero, List.set_cons_succ, i64_w, i32_w]
              rfl
            refine take_ (i := 4) (N := some 20) (v := ?_) (a' := ?_) #[true, true, true, true, true, false, false, true, false, false, false, false, false, false, false, false] rfl rfl (take_ofW HT_.out HW_.out (by kernel_rfl)) (fun _ _ _ h => h) (Or.inl ⟨by rfl, ?_⟩) hHeld ?_ ?_
            rotate_left
            · rintro w' ⟨s0, s1, s2, s3, s4, s5, s6, s7, s8, s9, s10, s11⟩
              go_simp
              with_reducible rfl
            rotate_left
            · simp only [Act.put, List.setIfInBounds_toArray, List.set_cons_zero, List.set_cons_succ, i64_w, i32_w]
              rfl
            refine pure_ (i := 5) (N := some 21) (v := ?_) (a' := ?_) #[true, true, true, true, true, true, false, true, false, false, false, false, false, false, false, false] rfl rfl (any_of HT_.out (by kernel_rfl)) (fun _ _ _ h => h) (Or.inl ⟨by rfl, ?_⟩) ?_ ?_
            rotate_left
            · intro w'
              go_simp
              with_reducible rfl
            rotate_left
            · simp only [Act.put, List.setIfInBounds_toArray, List.set_cons_zero, List.set_cons_succ, i64_w, i32_w]
              rfl
            refine take_ (i := 6) (N := some 22) (v := ?_) (a' := ?_) #[true, true, true, true, true, true, true, true, false, false, false, false, false, false, false, false] rfl rfl (take_ofW HT_.out HW_.out (by kernel_rfl)) (fun _ _ _ h => h) (Or.inl ⟨by rfl, ?_⟩) hHeld ?_ ?_
            rotate_left
            · rintro w' ⟨s0, s1, s2, s3, s4, s5, s6, s7, s8, s9, s10, s11⟩
              go_simp
              with_reducible rfl
            rotate_left
            · simp only [Act.put, List.setIfInBounds_toArray, List.set_cons_zero, List.set_cons_succ, i64_w, i32_w]
              rfl
            refine take_ (i := 8) (N := some 24) (v := ?_) (a' := ?_) #[true, true, true, true, true, true, true, true, true, false, false, false, false, false, false, false] rfl rfl (take_ofW HT_.out HW_.out (by kernel_rfl)) (fun _ _ _ h => h) (Or.inl ⟨by rfl, ?_⟩) hHeld ?_ ?_
            rotate_left
            · rintro w' ⟨s0, s1, s2, s3, s4, s5, s6, s7, s8, s9, s10, s11⟩
              go_simp
              with_reducible rfl
            rotate_left
            · simp only [Act.put, List.setIfInBounds_toArray, List.set_cons_zero, List.set_cons_succ, i64_w, i32_w]
              rfl
            refine pure_ (i := 9) (N := some 25) (v := ?_) (a' := ?_) #[true, true, true, true, true, true, true, true, true, true, false, false, false, false, false, false] rfl rfl (any_of HT_.out (by kernel_rfl)) (fun _ _ _ h => h) (Or.inl ⟨by rfl, ?_⟩) ?_ ?_
            rotate_left
            · intro w'
              go_simp
              with_reducible rfl
            rotate_left
            · simp only [Act.put, List.setIfInBounds_toArray, List.set_cons_zero, List.set_cons_succ, i64_w, i32_w]
              rfl
            refine take_ (i := 10) (N := some 26) (v := ?_) (a' := ?_) #[true, true, true, true, true, true, true, true, true, true, true, false, false, false, false, false] rfl rfl (take_ofW HT_.out HW_.out (by kernel_rfl)) (fun _ _ _ h => h) (Or.inl ⟨by rfl, ?_⟩) hHeld ?_ ?_
            rotate_left
            · rintro w' ⟨s0, s1, s2, s3, s4, s5, s6, s7, s8, s9, s10, s11⟩
              go_simp
              with_reducible rfl
            rotate_left
            · simp only [Act.put, List.setIfInBounds_toArray, List.set_cons_zero, List.set_cons_succ, i64_w, i32_w]
              rfl
            refine one_ (i := 11) (N := some 27) #[true, true, true, true, true, true, true, true, true, true, true, true, false, false, false, false] rfl rfl (one_of HT_.out (by kernel_rfl)) (by decide) (fun K hK => ?_)
            refine goes_ Try.func60 (by kernel_rfl) rfl #[.agg #[.int .i64 ((rd_T62 ((rd_T62 l0_2 0).f2) 0).f0), .int .i64 ((rd_T62 ((rd_T62 l0_2 0).f2) 0).f1), .slice A475_2 ((rd_T62 ((rd_T62 l0_2 0).f2) 0).f2).length c475_2], .int .i64 0, .agg #[.int .i64 ((rd_T62 l0_2 1).f0), .int .i64 ((rd_T62 l0_2 1).f1), .slice A476_2 ((rd_T62 l0_2 1).f2).length c476_2]] (by rfl) rfl rfl (by (try simp only [List.map_toArray, List.map_cons, List.map_nil]); first | done | rfl | (simp only [List.length_drop, List.length_take]; rfl)) ?_
            with_reducible refine (spec_l3Put.calls k ((rd_T62 ((rd_T62 l0_2 0).f2) 0).f0) ((rd_T62 ((rd_T62 l0_2 0).f2) 0).f1) (fun k_ => (((P0_2_ k_ ∨ w.heap.size ≤ k_) ∧ k_ ≠ gb471) ∧ k_ ≠ gb472)) _ _ ((rd_T62 ((rd_T62 l0_2 0).f2) 0).f2) 0 ((rd_T62 l0_2 1).f0) ((rd_T62 l0_2 1).f1) _ _ ((rd_T62 l0_2 1).f2) t477 t478 t479 t482 _ ?side1 ?side2 ?side3 A7.out).mono ?_
            (case side1 => exact HL475_2.out)
            (case side2 => repeat (first | exact (by repeat (first | (with_reducible exact HR476_2.out) | (with_reducible refine Kd.C_alloc ?_ _) | (with_reducible refine Kd.C_drewN ?_ _) | (with_reducible refine Kd.C_drew ?_) | exact HR476_2.out)) | (with_reducible refine Kd.C_alloc ?_ _) | (with_reducible refine Kd.C_drewN ?_ _) | (with_reducible refine Kd.C_drew ?_)))
            (case side3 => exact HC476_2.out)
            rintro e w13 ⟨v480, rfl, ho0, hb⟩
            have HS3_ := (hb.cell (aa_ _ _ (hHeld.2.2.2.1))).trans (hHeld.2.2.2.1)
            have HS4_ := (hb.cell (aa_ _ _ (hHeld.2.2.2.2.1))).trans (hHeld.2.2.2.2.1)
            have HS5_ := (hb.cell (aa_ _ _ (hHeld.2.2.2.2.2.1))).trans (hHeld.2.2.2.2.2.1)
            have HS6_ := (hb.cell (aa_ _ _ (hHeld.2.2.2.2.2.2.1))).trans (hHeld.2.2.2.2.2.2.1)
            have HS7_ := (hb.cell (aa_ _ _ (hHeld.2.2.2.2.2.2.2.1))).trans (hHeld.2.2.2.2.2.2.2.1)
            have HS8_ := (hb.cell (aa_ _ _ (hHeld.2.2.2.2.2.2.2.2.1))).trans (hHeld.2.2.2.2.2.2.2.2.1)
            have HS9_ := (hb.cell (aa_ _ _ (hHeld.2.2.2.2.2.2.2.2.2.1))).trans (hHeld.2.2.2.2.2.2.2.2.2.1)
            have HS10_ := (hb.cell (aa_ _ _ (hHeld.2.2.2.2.2.2.2.2.2.2.1))).trans (hHeld.2.2.2.2.2.2.2.2.2.2.1)
            have HS11_ := (hb.cell (aa_ _ _ (hHeld.2.2.2.2.2.2.2.2.2.2.2))).trans (hHeld.2.2.2.2.2.2.2.2.2.2.2)
            refine ⟨_, rfl, ?_⟩
            have n0_ := ab_ (Kd.V_below (by (with_reducible repeat (first | apply Kd.V_alloc | apply Kd.V_drewN | apply Kd.V_drew)); exact HO0_2.out) hb)
            have n1_ := ab_ (Kd.V_below (by (with_reducible repeat (first | apply Kd.V_alloc | apply Kd.V_drewN | apply Kd.V_drew)); exact HL473_2.out) hb)
            have n2_ := ab_ (Kd.V_below (by (with_reducible repeat (first | apply Kd.V_alloc | apply Kd.V_drewN | apply Kd.V_drew)); exact HL474_2.out) hb)
            have n3_ := ab_ (Kd.V_below (by (with_reducible repeat (first | apply Kd.V_alloc | apply Kd.V_drewN | apply Kd.V_drew)); exact HL475_2.out) hb)
            have n4_ := ab_ (Kd.V_below (by (with_reducible repeat (first | apply Kd.V_alloc | apply Kd.V_drewN | apply Kd.V_drew)); exact HL476_2.out) hb)
            have n5_ := ab_ (Kd.V_lower (Kd.V_mono (ok' := fun k_ => (P0_2_ k_ ∨ w.heap.size ≤ k_) ∧ k_ ≠ gb471 ∧ k_ ≠ gb472) ho0 (fun k_ hk_ => ⟨Or.elim hk_ (fun hs_ => hs_.1.1) (fun hn_ => (.inr (Nat.le_trans (below_size (by repeat (first | (with_reducible first | exact HB.out | apply ai_ | apply ag_ | apply ah_ | refine af_ ?_ GE471.out | refine af_ ?_ GE472.out) | exact HB.out))) hn_))), Or.elim hk_ (fun hs_ => hs_.1.2) (fun hn_ => (Kd.freshB (g := gb471) (o := .cells #[.int .i64 a0_0, .int .i64 a0_1, .slice (some ad473) l0_2.length c0_2] 62 (0, 0)) (by (with_reducible repeat (first | refine ac_ ?_ _ | refine ae_ ?_ | refine ad_ ?_ _)); exact BK471.out) k_ hn_)), Or.elim hk_ (fun hs_ => hs_.2) (fun hn_ => (Kd.freshB (g := gb472) (o := .cells #[.int .i64 0, .int .i64 0, .slice none 0 0] 62 (0, 0)) (by (with_reducible repeat (first | refine ac_ ?_ _ | refine ae_ ?_ | refine ad_ ?_ _)); exact BK472.out) k_ hn_))⟩)) (below_size (by repeat (first | (with_reducible first | exact HB.out | apply ai_ | apply ag_ | apply ah_ | refine af_ ?_ GE471.out | refine af_ ?_ GE472.out) | exact HB.out))))
            have n6_ := ab_ (blk_below (g := gb471) (o := .cells #[.int .i64 a0_0, .int .i64 a0_1, .slice (some ad473) l0_2.length c0_2] 62 (0, 0)) (by (with_reducible repeat (first | refine ac_ ?_ _ | refine ae_ ?_ | refine ad_ ?_ _)); exact BK471.out) hb)
            have n7_ := ab_ (blk_below (g := gb472) (o := .cells #[.int .i64 0, .int .i64 0, .slice none 0 0] 62 (0, 0)) (by (with_reducible repeat (first | refine ac_ ?_ _ | refine ae_ ?_ | refine ad_ ?_ _)); exact BK472.out) hb)
            have n8_ := ab_ (Kd.C_below (by repeat (first | (with_reducible exact HR473_2.out) | (with_reducible refine Kd.C_alloc ?_ _) | (with_reducible refine Kd.C_drewN ?_ _) | (with_reducible refine Kd.C_drew ?_) | exact HR473_2.out)) hb)
            have n9_ := ab_ (Kd.C_below (by repeat (first | (with_reducible exact HR474_2.out) | (with_reducible refine Kd.C_alloc ?_ _) | (with_reducible refine Kd.C_drewN ?_ _) | (with_reducible refine Kd.C_drew ?_) | exact HR474_2.out)) hb)
            have n10_ := ab_ (Kd.C_below (by repeat (first | (with_reducible exact HR475_2.out) | (with_reducible refine Kd.C_alloc ?_ _) | (with_reducible refine Kd.C_drewN ?_ _) | (with_reducible refine Kd.C_drew ?_) | exact HR475_2.out)) hb)
            have n11_ := ab_ (Kd.C_below (by repeat (first | (with_reducible exact HR476_2.out) | (with_reducible refine Kd.C_alloc ?_ _) | (with_reducible refine Kd.C_drewN ?_ _) | (with_reducible refine Kd.C_drew ?_) | exact HR476_2.out)) hb)
            have n12_ := ab_ (as_ (by repeat (first | (with_reducible first | exact HB.out | apply ai_ | apply ag_ | apply ah_ | refine af_ ?_ GE471.out | refine af_ ?_ GE472.out) | exact HB.out)) hb)
            clear HO0_2
            clear HL473_2
            clear HL474_2
            clear HL475_2
            clear HL476_2
            clear BK471
            clear BK472
            clear HR473_2
            clear HR474_2
            clear HR475_2
            clear HR476_2
            clear HB
            have HO0_2 := n0_
            have HL473_2 := n1_
            have HL474_2 := n2_
            have HL475_2 := n3_
            have HL476_2 := n4_
            have HO481 := n5_
            have BK471 := n6_
            have BK472 := n7_
            have HR473_2 := n8_
            have HR474_2 := n9_
            have HR475_2 := n10_
            have HR476_2 := n11_
            have HB := n12_
            clear n0_ n1_ n2_ n3_ n4_ n5_ n6_ n7_ n8_ n9_ n10_ n11_ n12_
            (try clear hb)
            (try clear hb2)
            (try clear hk)
            (try clear hi)
            (try clear ho0)
            obtain ⟨Ao16, co16, eo16⟩ := Kd.V_slice HO481.out
            (first | subst eo16 | (injection eo16 with f1_ f2_ f3_; have f4_ := f1_.symm; have f5_ := f3_.symm; clear f1_ f2_ f3_; subst f4_; subst f5_))
            refine hK.out _ _ ⟨(an_ BK471.out 0).trans rfl, (an_ BK471.out 1).trans rfl, (an_ BK471.out 2).trans rfl, HS3_, HS4_, HS5_, HS6_, HS7_, HS8_, HS9_, HS10_, HS11_⟩ (fun hHeld => ?_)
            clear hK K
            refine norm_ (a' := ?_) ?_ ?_
            rotate_left
            · show Act.put _ (some 27) _ = _
              simp only [Act.put, List.setIfInBounds_toArray, List.set_cons_zero, List.set_cons_succ, i64_w, i32_w]
              rfl
            refine pure_ (i := 12) (N := some 28) (v := ?_) (a' := ?_) #[true, true, true, true, true, true, true, true, true, true, true, true, true, false, false, false] rfl rfl (any_of HT_.out (by kernel_rfl)) (fun _ _ _ h => h) (Or.inl ⟨by rfl, ?_⟩) ?_ ?_
            rotate_left
            · intro w'
              go_simp
              with_reducible rfl
            rotate_left
            · simp only [Act.put, List.setIfInBounds_toArray, List.set_cons_zero, List.set_cons_succ, i64_w, i32_w]
              rfl
            refine pure_ (i := 13) (N := some 29) (v := ?_) (a' := ?_) #[true, true, true, true, true, true, true, true, true, true, true, true, true, true, false, false] rfl rfl (any_of HT_.out (by kernel_rfl)) (fun _ _ _ h => h) (Or.inl ⟨by rfl, ?_⟩) ?_ ?_
            rotate_left
            · intro w'
              go_simp
              with_reducible rfl
            rotate_left
            · simp only [Act.put, List.setIfInBounds_toArray, List.set_cons_zero, List.set_cons_succ, i64_w, i32_w]
              rfl
            refine one_ (i := 14) (N := none) #[true, true, true, true, true, true, true, true, true, true, true, true, true, true, true, false] rfl rfl (one_of HT_.out (by kernel_rfl)) (by decide) (fun K hK => ?_)
            have hs14 : w13.cell? ⟨gb472, 0, none⟩ = some (.int .i64 0) := (an_ BK472.out 0).trans rfl
            have hfs14 := am_ BK472.out 0
            have hns14_0 := NB471_472.out
            have hms14_0 := NB472_471.out
            have hs15 : w13.cell? ⟨gb472, 1, none⟩ = some (.int .i64 0) := (an_ BK472.out 1).trans rfl
            have hfs15 := am_ BK472.out 1
            have hns15_0 := NB471_472.out
            have hms15_0 := NB472_471.out
            have hs17 : w13.cell? ⟨gb472, 2, none⟩ = some (.slice none 0 0) := (an_ BK472.out 2).trans rfl
            have hfs17 := am_ BK472.out 2
            have hns17_0 := NB471_472.out
            have hms17_0 := NB472_471.out
            refine skip_ (w1 := ?_) (by rfl) rfl ?_ ?_
            rotate_left
            · go_simp
              rfl
            refine hK.out _ _ ⟨((cell_far (p := ⟨gb472, _, none⟩) NB471_472.out _).trans (((cell_far (p := ⟨gb472, _, none⟩) NB471_472.out _).trans (((cell_far (p := ⟨gb472, _, none⟩) NB471_472.out _).trans (hHeld.1)))))), ((cell_far (p := ⟨gb472, _, none⟩) NB471_472.out _).trans (((cell_far (p := ⟨gb472, _, none⟩) NB471_472.out _).trans (((cell_far (p := ⟨gb472, _, none⟩) NB471_472.out _).trans (hHeld.2.1)))))), ((cell_far (p := ⟨gb472, _, none⟩) NB471_472.out _).trans (((cell_far (p := ⟨gb472, _, none⟩) NB471_472.out _).trans (((cell_far (p := ⟨gb472, _, none⟩) NB471_472.out _).trans (hHeld.2.2.1)))))), ((cell_far (p := ⟨gb472, _, none⟩) (by first | exact Kd.own_blk (V62_away HO0_2.out HN62 (fun _ hk => hk.2)) | (rw [al_]; exact Kd.own_blk (V62_away HO0_2.out HN62 (fun _ hk => hk.2))) | (show (Addr.add _ _).block ≠ _; rw [al_]; exact Kd.own_blk (V62_away HO0_2.out HN62 (fun _ hk => hk.2))) | (dsimp only; exact Kd.own_blk (V62_away HO0_2.out HN62 (fun _ hk => hk.2)))) _).trans (((cell_far (p := ⟨gb472, _, none⟩) (by first | exact Kd.own_blk (V62_away HO0_2.out HN62 (fun _ hk => hk.2)) | (rw [al_]; exact Kd.own_blk (V62_away HO0_2.out HN62 (fun _ hk => hk.2))) | (show (Addr.add _ _).block ≠ _; rw [al_]; exact Kd.own_blk (V62_away HO0_2.out HN62 (fun _ hk => hk.2))) | (dsimp only; exact Kd.own_blk (V62_away HO0_2.out HN62 (fun _ hk => hk.2)))) _).trans (((cell_far (p := ⟨gb472, _, none⟩) (by first | exact Kd.own_blk (V62_away HO0_2.out HN62 (fun _ hk => hk.2)) | (rw [al_]; exact Kd.own_blk (V62_away HO0_2.out HN62 (fun _ hk => hk.2))) | (show (Addr.add _ _).block ≠ _; rw [al_]; exact Kd.own_blk (V62_away HO0_2.out HN62 (fun _ hk => hk.2))) | (dsimp only; exact Kd.own_blk (V62_away HO0_2.out HN62 (fun _ hk => hk.2)))) _).trans (hHeld.2.2.2.1)))))), ((cell_far (p := ⟨gb472, _, none⟩) (by first | exact Kd.own_blk (V62_away HO0_2.out HN62 (fun _ hk => hk.2)) | (rw [al_]; exact Kd.own_blk (V62_away HO0_2.out HN62 (fun _ hk => hk.2))) | (show (Addr.add _ _).block ≠ _; rw [al_]; exact Kd.own_blk (V62_away HO0_2.out HN62 (fun _ hk => hk.2))) | (dsimp only; exact Kd.own_blk (V62_away HO0_2.out HN62 (fun _ hk => hk.2)))) _).trans (((cell_far (p := ⟨gb472, _, none⟩) (by first | exact Kd.own_blk (V62_away HO0_2.out HN62 (fun _ hk => hk.2)) | (rw [al_]; exact Kd.own_blk (V62_away HO0_2.out HN62 (fun _ hk => hk.2))) | (show (Addr.add _ _).block ≠ _; rw [al_]; exact Kd.own_blk (V62_away HO0_2.out HN62 (fun _ hk => hk.2))) | (dsimp only; exact Kd.own_blk (V62_away HO0_2.out HN62 (fun _ hk => hk.2)))) _).trans (((cell_far (p := ⟨gb472, _, none⟩) (by first | exact Kd.own_blk (V62_away HO0_2.out HN62 (fun _ hk => hk.2)) | (rw [al_]; exact Kd.own_blk (V62_away HO0_2.out HN62 (fun _ hk => hk.2))) | (show (Addr.add _ _).block ≠ _; rw [al_]; exact Kd.own_blk (V62_away HO0_2.out HN62 (fun _ hk => hk.2))) | (dsimp only; exact Kd.own_blk (V62_away HO0_2.out HN62 (fun _ hk => hk.2)))) _).trans (hHeld.2.2.2.2.1)))))), ((cell_far (p := ⟨gb472, _, none⟩) (by first | exact Kd.own_blk (V62_away HO0_2.out HN62 (fun _ hk => hk.2)) | (rw [al_]; exact Kd.own_blk (V62_away HO0_2.out HN62 (fun _ hk => hk.2))) | (show (Addr.add _ _).block ≠ _; rw [al_]; exact Kd.own_blk (V62_away HO0_2.out HN62 (fun _ hk => hk.2))) | (dsimp only; exact Kd.own_blk (V62_away HO0_2.out HN62 (fun _ hk => hk.2)))) _).trans (((cell_far (p := ⟨gb472, _, none⟩) (by first | exact Kd.own_blk (V62_away HO0_2.out HN62 (fun _ hk => hk.2)) | (rw [al_]; exact Kd.own_blk (V62_away HO0_2.out HN62 (fun _ hk => hk.2))) | (show (Addr.add _ _).block ≠ _; rw [al_]; exact Kd.own_blk (V62_away HO0_2.out HN62 (fun _ hk => hk.2))) | (dsimp only; exact Kd.own_blk (V62_away HO0_2.out HN62 (fun _ hk => hk.2)))) _).trans (((cell_far (p := ⟨gb472, _, none⟩) (by first | exact Kd.own_blk (V62_away HO0_2.out HN62 (fun _ hk => hk.2)) | (rw [al_]; exact Kd.own_blk (V62_away HO0_2.out HN62 (fun _ hk => hk.2))) | (show (Addr.add _ _).block ≠ _; rw [al_]; exact Kd.own_blk (V62_away HO0_2.out HN62 (fun _ hk => hk.2))) | (dsimp only; exact Kd.own_blk (V62_away HO0_2.out HN62 (fun _ hk => hk.2)))) _).trans (hHeld.2.2.2.2.2.1)))))), ((cell_far (p := ⟨gb472, _, none⟩) (by first | exact Kd.own_blk (V62_away HL474_2.out HN63 (fun _ hk => hk.2)) | (rw [al_]; exact Kd.own_blk (V62_away HL474_2.out HN63 (fun _ hk => hk.2))) | (show (Addr.add _ _).block ≠ _; rw [al_]; exact Kd.own_blk (V62_away HL474_2.out HN63 (fun _ hk => hk.2))) | (dsimp only; exact Kd.own_blk (V62_away HL474_2.out HN63 (fun _ hk => hk.2)))) _).trans (((cell_far (p := ⟨gb472, _, none⟩) (by first | exact Kd.own_blk (V62_away HL474_2.out HN63 (fun _ hk => hk.2)) | (rw [al_]; exact Kd.own_blk (V62_away HL474_2.out HN63 (fun _ hk => hk.2))) | (show (Addr.add _ _).block ≠ _; rw [al_]; exact Kd.own_blk (V62_away HL474_2.out HN63 (fun _ hk => hk.2))) | (dsimp only; exact Kd.own_blk (V62_away HL474_2.out HN63 (fun _ hk => hk.2)))) _).trans (((cell_far (p := ⟨gb472, _, none⟩) (by first | exact Kd.own_blk (V62_away HL474_2.out HN63 (fun _ hk => hk.2)) | (rw [al_]; exact Kd.own_blk (V62_away HL474_2.out HN63 (fun _ hk => hk.2))) | (show (Addr.add _ _).block ≠ _; rw [al_]; exact Kd.own_blk (V62_away HL474_2.out HN63 (fun _ hk => hk.2))) | (dsimp only; exact Kd.own_blk (V62_away HL474_2.out HN63 (fun _ hk => hk.2)))) _).trans (hHeld.2.2.2.2.2.2.1)))))), ((cell_far (p := ⟨gb472, _, none⟩) (by first | exact Kd.own_blk (V62_away HL474_2.out HN63 (fun _ hk => hk.2)) | (rw [al_]; exact Kd.own_blk (V62_away HL474_2.out HN63 (fun _ hk => hk.2))) | (show (Addr.add _ _).block ≠ _; rw [al_]; exact Kd.own_blk (V62_away HL474_2.out HN63 (fun _ hk => hk.2))) | (dsimp only; exact Kd.own_blk (V62_away HL474_2.out HN63 (fun _ hk => hk.2)))) _).trans (((cell_far (p := ⟨gb472, _, none⟩) (by first | exact Kd.own_blk (V62_away HL474_2.out HN63 (fun _ hk => hk.2)) | (rw [al_]; exact Kd.own_blk (V62_away HL474_2.out HN63 (fun _ hk => hk.2))) | (show (Addr.add _ _).block ≠ _; rw [al_]; exact Kd.own_blk (V62_away HL474_2.out HN63 (fun _ hk => hk.2))) | (dsimp only; exact Kd.own_blk (V62_away HL474_2.out HN63 (fun _ hk => hk.2)))) _).trans (((cell_far (p := ⟨gb472, _, none⟩) (by first | exact Kd.own_blk (V62_away HL474_2.out HN63 (fun _ hk => hk.2)) | (rw [al_]; exact Kd.own_blk (V62_away HL474_2.out HN63 (fun _ hk => hk.2))) | (show (Addr.add _ _).block ≠ _; rw [al_]; exact Kd.own_blk (V62_away HL474_2.out HN63 (fun _ hk => hk.2))) | (dsimp only; exact Kd.own_blk (V62_away HL474_2.out HN63 (fun _ hk => hk.2)))) _).trans (hHeld.2.2.2.2.2.2.2.1)))))), ((cell_far (p := ⟨gb472, _, none⟩) (by first | exact Kd.own_blk (V62_away HL474_2.out HN63 (fun _ hk => hk.2)) | (rw [al_]; exact Kd.own_blk (V62_away HL474_2.out HN63 (fun _ hk => hk.2))) | (show (Addr.add _ _).block ≠ _; rw [al_]; exact Kd.own_blk (V62_away HL474_2.out HN63 (fun _ hk => hk.2))) | (dsimp only; exact Kd.own_blk (V62_away HL474_2.out HN63 (fun _ hk => hk.2)))) _).trans (((cell_far (p := ⟨gb472, _, none⟩) (by first | exact Kd.own_blk (V62_away HL474_2.out HN63 (fun _ hk => hk.2)) | (rw [al_]; exact Kd.own_blk (V62_away HL474_2.out HN63 (fun _ hk => hk.2))) | (show (Addr.add _ _).block ≠ _; rw [al_]; exact Kd.own_blk (V62_away HL474_2.out HN63 (fun _ hk => hk.2))) | (dsimp only; exact Kd.own_blk (V62_away HL474_2.out HN63 (fun _ hk => hk.2)))) _).trans (((cell_far (p := ⟨gb472, _, none⟩) (by first | exact Kd.own_blk (V62_away HL474_2.out HN63 (fun _ hk => hk.2)) | (rw [al_]; exact Kd.own_blk (V62_away HL474_2.out HN63 (fun _ hk => hk.2))) | (show (Addr.add _ _).block ≠ _; rw [al_]; exact Kd.own_blk (V62_away HL474_2.out HN63 (fun _ hk => hk.2))) | (dsimp only; exact Kd.own_blk (V62_away HL474_2.out HN63 (fun _ hk => hk.2)))) _).trans (hHeld.2.2.2.2.2.2.2.2.1)))))), ((cell_far (p := ⟨gb472, _, none⟩) (by first | exact Kd.own_blk (V62_away HO0_2.out HN62 (fun _ hk => hk.2)) | (rw [al_]; exact Kd.own_blk (V62_away HO0_2.out HN62 (fun _ hk => hk.2))) | (show (Addr.add _ _).block ≠ _; rw [al_]; exact Kd.own_blk (V62_away HO0_2.out HN62 (fun _ hk => hk.2))) | (dsimp only; exact Kd.own_blk (V62_away HO0_2.out HN62 (fun _ hk => hk.2)))) _).trans (((cell_far (p := ⟨gb472, _, none⟩) (by first | exact Kd.own_blk (V62_away HO0_2.out HN62 (fun _ hk => hk.2)) | (rw [al_]; exact Kd.own_blk (V62_away HO0_2.out HN62 (fun _ hk => hk.2))) | (show (Addr.add _ _).block ≠ _; rw [al_]; exact Kd.own_blk (V62_away HO0_2.out HN62 (fun _ hk => hk.2))) | (dsimp only; exact Kd.own_blk (V62_away HO0_2.out HN62 (fun _ hk => hk.2)))) _).trans (((cell_far (p := ⟨gb472, _, none⟩) (by first | exact Kd.own_blk (V62_away HO0_2.out HN62 (fun _ hk => hk.2)) | (rw [al_]; exact Kd.own_blk (V62_away HO0_2.out HN62 (fun _ hk => hk.2))) | (show (Addr.add _ _).block ≠ _; rw [al_]; exact Kd.own_blk (V62_away HO0_2.out HN62 (fun _ hk => hk.2))) | (dsimp only; exact Kd.own_blk (V62_away HO0_2.out HN62 (fun _ hk => hk.2)))) _).trans (hHeld.2.2.2.2.2.2.2.2.2.1)))))), ((cell_far (p := ⟨gb472, _, none⟩) (by first | exact Kd.own_blk (V62_away HO0_2.out HN62 (fun _ hk => hk.2)) | (rw [al_]; exact Kd.own_blk (V62_away HO0_2.out HN62 (fun _ hk => hk.2))) | (show (Addr.add _ _).block ≠ _; rw [al_]; exact Kd.own_blk (V62_away HO0_2.out HN62 (fun _ hk => hk.2))) | (dsimp only; exact Kd.own_blk (V62_away HO0_2.out HN62 (fun _ hk => hk.2)))) _).trans (((cell_far (p := ⟨gb472, _, none⟩) (by first | exact Kd.own_blk (V62_away HO0_2.out HN62 (fun _ hk => hk.2)) | (rw [al_]; exact Kd.own_blk (V62_away HO0_2.out HN62 (fun _ hk => hk.2))) | (show (Addr.add _ _).block ≠ _; rw [al_]; exact Kd.own_blk (V62_away HO0_2.out HN62 (fun _ hk => hk.2))) | (dsimp only; exact Kd.own_blk (V62_away HO0_2.out HN62 (fun _ hk => hk.2)))) _).trans (((cell_far (p := ⟨gb472, _, none⟩) (by first | exact Kd.own_blk (V62_away HO0_2.out HN62 (fun _ hk => hk.2)) | (rw [al_]; exact Kd.own_blk (V62_away HO0_2.out HN62 (fun _ hk => hk.2))) | (show (Addr.add _ _).block ≠ _; rw [al_]; exact Kd.own_blk (V62_away HO0_2.out HN62 (fun _ hk => hk.2))) | (dsimp only; exact Kd.own_blk (V62_away HO0_2.out HN62 (fun _ hk => hk.2)))) _).trans (hHeld.2.2.2.2.2.2.2.2.2.2.1)))))), ((cell_far (p := ⟨gb472, _, none⟩) (by first | exact Kd.own_blk (V62_away HO0_2.out HN62 (fun _ hk => hk.2)) | (rw [al_]; exact Kd.own_blk (V62_away HO0_2.out HN62 (fun _ hk => hk.2))) | (show (Addr.add _ _).block ≠ _; rw [al_]; exact Kd.own_blk (V62_away HO0_2.out HN62 (fun _ hk => hk.2))) | (dsimp only; exact Kd.own_blk (V62_away HO0_2.out HN62 (fun _ hk => hk.2)))) _).trans (((cell_far (p := ⟨gb472, _, none⟩) (by first | exact Kd.own_blk (V62_away HO0_2.out HN62 (fun _ hk => hk.2)) | (rw [al_]; exact Kd.own_blk (V62_away HO0_2.out HN62 (fun _ hk => hk.2))) | (show (Addr.add _ _).block ≠ _; rw [al_]; exact Kd.own_blk (V62_away HO0_2.out HN62 (fun _ hk => hk.2))) | (dsimp only; exact Kd.own_blk (V62_away HO0_2.out HN62 (fun _ hk => hk.2)))) _).trans (((cell_far (p := ⟨gb472, _, none⟩) (by first | exact Kd.own_blk (V62_away HO0_2.out HN62 (fun _ hk => hk.2)) | (rw [al_]; exact Kd.own_blk (V62_away HO0_2.out HN62 (fun _ hk => hk.2))) | (show (Addr.add _ _).block ≠ _; rw [al_]; exact Kd.own_blk (V62_away HO0_2.out HN62 (fun _ hk => hk.2))) | (dsimp only; exact Kd.own_blk (V62_away HO0_2.out HN62 (fun _ hk => hk.2)))) _).trans (hHeld.2.2.2.2.2.2.2.2.2.2.2))))))⟩ (fun hHeld => ?_)
            clear hK K
            refine pure_ (i := 15) (N := some 3) (v := ?_) (a' := ?_) #[true, true, true, true, true, true, true, true, true, true, true, true, true, true, true, true] rfl rfl (any_of HT_.out (by kernel_rfl)) (fun _ _ _ h => h) (Or.inl ⟨by rfl, ?_⟩) ?_ ?_
            rotate_left
            · intro w'
              go_simp
              with_reducible rfl
            rotate_left
            · simp only [Act.put, List.setIfInBounds_toArray, List.set_cons_zero, List.set_cons_succ, i64_w, i32_w]
              rfl
            refine done_ (done_of HT_.out (by kernel_rfl)) ?_
            try go_wp2
            refine bodyPost_ret (results_ct rfl _ _ gb472 62 #[.int .i64 t477, .int .i64 t478, .slice Ao16 t479.length co16] (0, 0) _ rfl (by (with_reducible repeat (first | refine ac_ ?_ _ | refine ae_ ?_ | refine ad_ ?_ _)); refine blk_put (cs := #[.int .i64 t477, .int .i64 t478, .slice none 0 0]) ?_ 2 _ rfl; (with_reducible repeat (first | refine ac_ ?_ _ | refine ae_ ?_ | refine ad_ ?_ _)); refine blk_put (cs := #[.int .i64 t477, .int .i64 0, .slice none 0 0]) ?_ 1 _ rfl; (with_reducible repeat (first | refine ac_ ?_ _ | refine ae_ ?_ | refine ad_ ?_ _)); refine blk_put (cs := #[.int .i64 0, .int .i64 0, .slice none 0 0]) ?_ 0 _ rfl; (with_reducible repeat (first | refine ac_ ?_ _ | refine ae_ ?_ | refine ad_ ?_ _)); exact BK472.out) Try.underlying62 rfl (by kernel_rfl)) rfl ?_
            exact ⟨_, by first | rfl | (simp [errW_none, errW_some] <;> rfl) | (simp [*, errW_none, errW_some] <;> rfl), by (with_reducible repeat (first | apply Kd.V_alloc | apply Kd.V_drewN | apply Kd.V_drew)); exact Kd.V_mono (Kd.V_far (p := ⟨gb472, 2, none⟩) (Kd.V_far (p := ⟨gb472, 1, none⟩) (Kd.V_far (p := ⟨gb472, 0, none⟩) (Kd.V_mono HO481.out (fun k_ hk => (⟨hk, hk.2.2⟩ : _ ∧ k_ ≠ gb472))) (fun _ hk => hk.2) (.int .i64 t477)) (fun _ hk => hk.2) (.int .i64 t478)) (fun _ hk => hk.2) (.slice Ao16 t479.length co16)) (fun _ hk => hk.1.1), by repeat (first | (with_reducible first | exact HB.out | apply ai_ | apply ag_ | apply ah_ | refine af_ ?_ GE471.out | refine af_ ?_ GE472.out) | exact HB.out)⟩
          · rw [if_neg c6] at H
            exact absurd H (by simp)
        · rw [if_neg c5] at H
          exact absurd H (by simp)
      · rw [if_neg c4] at H
        have c4b0 : (((rd_T62 l0_2 0).f0) == 3) = false := beq_eq_false_iff_ne.mpr c4
        have c4b1 : (((rd_T62 l0_2 0).f0) != 3) = true := bne_iff_ne.mpr c4
        simp only [Option.some.injEq, Prod.mk.injEq] at H
        obtain ⟨rfl, rfl, rfl, rfl⟩ := H
        go_enter Try.func108, Try.ntmps108
        go_wp2_with (first | ((with_reducible refine gate_dst (N := 1) rfl ?_); refine box_event ?hg (N := 1) ?hd (cs := #[.int .i64 a0_0, .int .i64 a0_1, .slice A0_2 l0_2.length c0_2]) (t := 62) ?hr ?_; (case hd => rfl); (case hg => rfl); (case hr => first | (go_simp; done) | (go_simp; rfl)); intro gb471 hg w18 hbox hb; have n0_ := ab_ (Kd.V_below (Kd.V_elderB (by (with_reducible repeat (first | apply Kd.V_alloc | apply Kd.V_drewN | apply Kd.V_drew)); exact HO0_2.out) gb471 (Nat.le_of_eq hg.symm)) hb); have n1_ := ab_ (as_ (by repeat (first | (with_reducible first | exact HB.out | apply ai_ | apply ag_ | apply ah_) | exact HB.out)) hb); have n2_ := ab_ (hbox); have n3_ := ab_ ((by rw [hg]; exact (below_size (by repeat (first | (with_reducible first | exact HB.out | apply ai_ | apply ag_ | apply ah_) | exact HB.out))) : w.heap.size ≤ gb471)); have n4_ := ab_ ((by rw [hg]; exact (below_size (by repeat (first | (with_reducible first | exact HB.out | apply ai_ | apply ag_ | apply ah_) | exact HB.out))) : w.heap.size ≤ gb471)); clear HO0_2; clear HB; have HO0_2 := n0_; have HB := n1_; have BK471 := n2_; have GW471 := n3_; have GE471 := n4_; clear n0_ n1_ n2_ n3_ n4_; clear hb hbox hg) | ((with_reducible refine gate_dst (N := 2) rfl ?_); refine box_event ?hg (N := 2) ?hd (cs := #[.int .i64 0, .int .i64 0, .slice none 0 0]) (t := 62) ?hr ?_; (case hd => rfl); (case hg => rfl); (case hr => first | (go_simp; done) | (go_simp; rfl)); intro gb472 hg w19 hbox hb; have n0_ := ab_ (Kd.V_below (Kd.V_elderB (by (with_reducible repeat (first | apply Kd.V_alloc | apply Kd.V_drewN | apply Kd.V_drew)); exact HO0_2.out) gb472 (Nat.le_of_eq hg.symm)) hb); have n1_ := ab_ (blk_below (g := gb471) (o := .cells #[.int .i64 a0_0, .int .i64 a0_1, .slice A0_2 l0_2.length c0_2] 62 (0, 0)) (by (with_reducible repeat (first | refine ac_ ?_ _ | refine ae_ ?_ | refine ad_ ?_ _)); exact BK471.out) hb); have n2_ := ab_ (as_ (by repeat (first | (with_reducible first | exact HB.out | apply ai_ | apply ag_ | apply ah_ | refine af_ ?_ GE471.out) | exact HB.out)) hb); have n3_ := ab_ (hbox); have n4_ := ab_ ((by rw [hg]; exact (below_size (by repeat (first | (with_reducible first | exact HB.out | apply ai_ | apply ag_ | apply ah_ | refine af_ ?_ GE471.out) | exact HB.out))) : w.heap.size ≤ gb472)); have n5_ := ab_ ((by rw [hg]; exact (below_size (by repeat (first | (with_reducible first | exact HB.out | apply ai_ | apply ag_ | apply ah_ | refine af_ ?_ GE471.out) | exact HB.out))) : w.heap.size ≤ gb472)); have n6_ := ab_ ((by rw [hg]; exact ak_ (blk_lt (g := gb471) (o := .cells #[.int .i64 a0_0, .int .i64 a0_1, .slice A0_2 l0_2.length c0_2] 62 (0, 0)) (by (with_reducible repeat (first | refine ac_ ?_ _ | refine ae_ ?_ | refine ad_ ?_ _)); exact BK471.out)) : gb471 ≠ gb472)); have n7_ := ab_ ((by rw [hg]; exact Nat.ne_of_gt (blk_lt (g := gb471) (o := .cells #[.int .i64 a0_0, .int .i64 a0_1, .slice A0_2 l0_2.length c0_2] 62 (0, 0)) (by (with_reducible repeat (first | refine ac_ ?_ _ | refine ae_ ?_ | refine ad_ ?_ _)); exact BK471.out)) : gb472 ≠ gb471)); clear HO0_2; clear BK471; clear HB; have HO0_2 := n0_; have BK471 := n1_; have HB := n2_; have BK472 := n3_; have GW472 := n4_; have GE472 := n5_; have NB471_472 := n6_; have NB472_471 := n7_; clear n0_ n1_ n2_ n3_ n4_ n5_ n6_ n7_; clear hb hbox hg; have hnb20 := NB471_472.out; have hnc20 := NB472_471.out; have hcz21_0 : w19.cell? ⟨gb471, 0, none⟩ = some (.int .i64 a0_0) := (an_ BK471.out 0).trans rfl; have hcz21_1 : w19.cell? ⟨gb471, 1, none⟩ = some (.int .i64 a0_1) := (an_ BK471.out 1).trans rfl; have hcz21_2 : w19.cell? ⟨gb471, 2, none⟩ = some (.slice A0_2 l0_2.length c0_2) := (an_ BK471.out 2).trans rfl; have hfz21_0 := am_ BK471.out 0; have hfz21_1 := am_ BK471.out 1; have hfz21_2 := am_ BK471.out 2; have p473 : 0 ≤ (0 : Int) := (by omega); have q473 : 0 < (l0_2.length : Int) := of_decide_eq_true (by first | (with_reducible assumption) | assumption); obtain ⟨ad473, A473_2, c473_2, e473, hx473_0, hx473_1, hx473_2, hl473_2, hi473_2⟩ := at_T62 (Kd.V_reads' HO0_2.out).2.2 0 p473 q473; cases e473; obtain ⟨ce473, hce473, hMe473, hcc473⟩ := Kd.V_get HO0_2.out z62 0 p473 (by first | exact q473 | exact of_decide_eq_true (by first | (with_reducible assumption) | assumption) | (have e_ := (Kd.V_reads' HO0_2.out).1; omega)); obtain ⟨ua473_2, uc473_2, rfl, ul473_2, ge473_2⟩ := k62_openF hMe473; have hv473_2 := hcc473 2 _ rfl; rw [add_field _ _ 2 (by omega)] at hv473_2; replace hv473_2 := Option.some.inj (hv473_2.symm.trans hx473_2); injection hv473_2 with hva_ hvn_ hvc_; rw [hva_] at ge473_2; rw [hvc_] at ul473_2; have HL473_2 := ab_ (show Kd.V k62 62 _ w.heap.size _ _ ((rd_T62 l0_2 0).f2) from Kd.V_mk ul473_2 ge473_2); clear hva_ hvn_ hvc_ ge473_2 ul473_2; clear hcc473 hce473; have qi473 : (0 < l0_2.length) = True := eq_true (by omega); (try rw [show ((0 : Int)).toNat = 0 from rfl] at hx473_0); (try rw [show 0 * 3 = 0 from rfl] at hx473_0); (try rw [Addr.add_zero'] at hx473_0); (try rw [show ((0 : Int)).toNat = 0 from rfl] at hx473_1); (try rw [show 0 * 3 = 0 from rfl] at hx473_1); (try rw [Addr.add_zero'] at hx473_1); (try rw [show ((0 : Int)).toNat = 0 from rfl] at hx473_2); (try rw [show 0 * 3 = 0 from rfl] at hx473_2); (try rw [Addr.add_zero'] at hx473_2); have HR473_2 := ab_ hi473_2; have HC473_2 := ab_ hl473_2; clear hi473_2 hl473_2; replace p473 := eq_true p473; replace q473 := eq_true q473; have hcz22_0 : w19.cell? ⟨gb472, 0, none⟩ = some (.int .i64 0) := (an_ BK472.out 0).trans rfl; have hcz22_1 : w19.cell? ⟨gb472, 1, none⟩ = some (.int .i64 0) := (an_ BK472.out 1).trans rfl; have hcz22_2 : w19.cell? ⟨gb472, 2, none⟩ = some (.slice none 0 0) := (an_ BK472.out 2).trans rfl; have hfz22_0 := am_ BK472.out 0; have hfz22_1 := am_ BK472.out 1; have hfz22_2 := am_ BK472.out 2))
        refine bodyPost_ret (results_ct rfl _ _ gb472 62 #[.int .i64 0, .int .i64 0, .slice none 0 0] (0, 0) _ rfl (by (with_reducible repeat (first | refine ac_ ?_ _ | refine ae_ ?_ | refine ad_ ?_ _)); refine blk_put (cs := #[.int .i64 0, .int .i64 0, .slice none 0 0]) ?_ 2 _ rfl; (with_reducible repeat (first | refine ac_ ?_ _ | refine ae_ ?_ | refine ad_ ?_ _)); refine blk_put (cs := #[.int .i64 0, .int .i64 0, .slice none 0 0]) ?_ 1 _ rfl; (with_reducible repeat (first | refine ac_ ?_ _ | refine ae_ ?_ | refine ad_ ?_ _)); refine blk_put (cs := #[.int .i64 0, .int .i64 0, .slice none 0 0]) ?_ 0 _ rfl; (with_reducible repeat (first | refine ac_ ?_ _ | refine ae_ ?_ | refine ad_ ?_ _)); exact BK472.out) Try.underlying62 rfl (by kernel_rfl)) rfl ?_
        exact ⟨_, by first | rfl | (simp [errW_none, errW_some] <;> rfl) | (simp [*, errW_none, errW_some] <;> rfl), (by exact Kd.V_nil _ _ _ _ _), by repeat (first | (with_reducible first | exact HB.out | apply ai_ | apply ag_ | apply ah_ | refine af_ ?_ GE471.out | refine af_ ?_ GE472.out) | exact HB.out)⟩
    · rw [if_neg c3] at H
      exact absurd H (by simp)
  · rw [if_neg c2] at H
    have c2b0 : (a0_0 == 4) = false := beq_eq_false_iff_ne.mpr c2
    have c2b1 : (a0_0 != 4) = true := bne_iff_ne.mpr c2
    by_cases c23 : a0_0 = 7
    · rw [if_pos c23] at H
      have c23b0 : (a0_0 == 7) = true := beq_iff_eq.mpr c23
      have c23b1 : (a0_0 != 7) = false := bne_eq_false_iff_eq.mpr c23
      clear c23
      by_cases c24 : 1 < (l0_2.length : Int)
      · rw [if_pos c24] at H
        have c24b0 : decide (1 < (l0_2.length : Int)) = true := ar_ c24
        have c24b1 : decide (1 < l0_2.length) = true := ar_ (by omega)
        clear c24
        by_cases c25 : 0 < (l0_2.length : Int)
        · rw [if_pos c25] at H
          have c25b0 : decide (0 < (l0_2.length : Int)) = true := ar_ c25
          have c25b1 : decide (0 < l0_2.length) = true := ar_ (by omega)
          have HN62 : 0 < l0_2.length := by omega
          clear c25
          replace H := Option.bind_eq_some_iff.mp H
          obtain ⟨⟨t485, t486, t487, t490⟩, A260, H⟩ := H
          replace H : (some (t485, t486, t487, t490)) = some (r1, r2, r3, r4) := H
          have A26 := ab_ A260
          clear A260
          simp only [Option.some.injEq, Prod.mk.injEq] at H
          obtain ⟨rfl, rfl, rfl, rfl⟩ := H
          go_enter Try.func108, Try.ntmps108
          try go_wp2_with (first | ((with_reducible refine gate_dst (N := 1) rfl ?_); refine box_event ?hg (N := 1) ?hd (cs := #[.int .i64 a0_0, .int .i64 a0_1, .slice A0_2 l0_2.length c0_2]) (t := 62) ?hr ?_; (case hd => rfl); (case hg => rfl); (case hr => first | (go_simp; done) | (go_simp; rfl)); intro gb471 hg w27 hbox hb; have n0_ := ab_ (Kd.V_below (Kd.V_elderB (by (with_reducible repeat (first | apply Kd.V_alloc | apply Kd.V_drewN | apply Kd.V_drew)); exact HO0_2.out) gb471 (Nat.le_of_eq hg.symm)) hb); have n1_ := ab_ (as_ (by repeat (first | (with_reducible first | exact HB.out | apply ai_ | apply ag_ | apply ah_) | exact HB.out)) hb); have n2_ := ab_ (hbox); have n3_ := ab_ ((by rw [hg]; exact (below_size (by repeat (first | (with_reducible first | exact HB.out | apply ai_ | apply ag_ | apply ah_) | exact HB.out))) : w.heap.size ≤ gb471)); have n4_ := ab_ ((by rw [hg]; exact (below_size (by repeat (first | (with_reducible first | exact HB.out | apply ai_ | apply ag_ | apply ah_) | exact HB.out))) : w.heap.size ≤ gb471)); clear HO0_2; clear HB; have HO0_2 := n0_; have HB := n1_; have BK471 := n2_; have GW471 := n3_; have GE471 := n4_; clear n0_ n1_ n2_ n3_ n4_; clear hb hbox hg) | ((with_reducible refine gate_dst (N := 2) rfl ?_); refine box_event ?hg (N := 2) ?hd (cs := #[.int .i64 0, .int .i64 0, .slice none 0 0]) (t := 62) ?hr ?_; (case hd => rfl); (case hg => rfl); (case hr => first | (go_simp; done) | (go_simp; rfl)); intro gb472 hg w28 hbox hb; have n0_ := ab_ (Kd.V_below (Kd.V_elderB (by (with_reducible repeat (first | apply Kd.V_alloc | apply Kd.V_drewN | apply Kd.V_drew)); exact HO0_2.out) gb472 (Nat.le_of_eq hg.symm)) hb); have n1_ := ab_ (blk_below (g := gb471) (o := .cells #[.int .i64 a0_0, .int .i64 a0_1, .slice A0_2 l0_2.length c0_2] 62 (0, 0)) (by (with_reducible repeat (first | refine ac_ ?_ _ | refine ae_ ?_ | refine ad_ ?_ _)); exact BK471.out) hb); have n2_ := ab_ (as_ (by repeat (first | (with_reducible first | exact HB.out | apply ai_ | apply ag_ | apply ah_ | refine af_ ?_ GE471.out) | exact HB.out)) hb); have n3_ := ab_ (hbox); have n4_ := ab_ ((by rw [hg]; exact (below_size (by repeat (first | (with_reducible first | exact HB.out | apply ai_ | apply ag_ | apply ah_ | refine af_ ?_ GE471.out) | exact HB.out))) : w.heap.size ≤ gb472)); have n5_ := ab_ ((by rw [hg]; exact (below_size (by repeat (first | (with_reducible first | exact HB.out | apply ai_ | apply ag_ | apply ah_ | refine af_ ?_ GE471.out) | exact HB.out))) : w.heap.size ≤ gb472)); have n6_ := ab_ ((by rw [hg]; exact ak_ (blk_lt (g := gb471) (o := .cells #[.int .i64 a0_0, .int .i64 a0_1, .slice A0_2 l0_2.length c0_2] 62 (0, 0)) (by (with_reducible repeat (first | refine ac_ ?_ _ | refine ae_ ?_ | refine ad_ ?_ _)); exact BK471.out)) : gb471 ≠ gb472)); have n7_ := ab_ ((by rw [hg]; exact Nat.ne_of_gt (blk_lt (g := gb471) (o := .cells #[.int .i64 a0_0, .int .i64 a0_1, .slice A0_2 l0_2.length c0_2] 62 (0, 0)) (by (with_reducible repeat (first | refine ac_ ?_ _ | refine ae_ ?_ | refine ad_ ?_ _)); exact BK471.out)) : gb472 ≠ gb471)); clear HO0_2; clear BK471; clear HB; have HO0_2 := n0_; have BK471 := n1_; have HB := n2_; have BK472 := n3_; have GW472 := n4_; have GE472 := n5_; have NB471_472 := n6_; have NB472_471 := n7_; clear n0_ n1_ n2_ n3_ n4_ n5_ n6_ n7_; clear hb hbox hg; have hnb29 := NB471_472.out; have hnc29 := NB472_471.out; have hcz30_0 : w28.cell? ⟨gb471, 0, none⟩ = some (.int .i64 a0_0) := (an_ BK471.out 0).trans rfl; have hcz30_1 : w28.cell? ⟨gb471, 1, none⟩ = some (.int .i64 a0_1) := (an_ BK471.out 1).trans rfl; have hcz30_2 : w28.cell? ⟨gb471, 2, none⟩ = some (.slice A0_2 l0_2.length c0_2) := (an_ BK471.out 2).trans rfl; have hfz30_0 := am_ BK471.out 0; have hfz30_1 := am_ BK471.out 1; have hfz30_2 := am_ BK471.out 2))
          have n0_ := ab_ (Kd.V_drew HO0_2.out)
          have n1_ := ab_ (ae_ BK471.out)
          have n2_ := ab_ (ae_ BK472.out)
          have n3_ := ab_ (ah_ HB.out)
          clear HO0_2
          clear BK471
          clear BK472
          clear HB
          have HO0_2 := n0_
          have BK471 := n1_
          have BK472 := n2_
          have HB := n3_
          clear n0_ n1_ n2_ n3_
          have p483 : 0 ≤ (1 : Int) := (by omega)
          have q483 : 1 < (l0_2.length : Int) := of_decide_eq_true (by first | (with_reducible assumption) | assumption)
          obtain ⟨ad483, A483_2, c483_2, e483, hx483_0, hx483_1, hx483_2, hl483_2, hi483_2⟩ := at_T62 (Kd.V_reads' HO0_2.out).2.2 1 p483 q483
          cases e483
          obtain ⟨ce483, hce483, hMe483, hcc483⟩ := Kd.V_get HO0_2.out z62 1 p483 (by first | exact q483 | exact of_decide_eq_true (by first | (with_reducible assumption) | assumption) | (have e_ := (Kd.V_reads' HO0_2.out).1; omega))
          obtain ⟨ua483_2, uc483_2, rfl, ul483_2, ge483_2⟩ := k62_openF hMe483
          have hv483_2 := hcc483 2 _ rfl
          rw [add_field _ _ 2 (by omega)] at hv483_2
          replace hv483_2 := Option.some.inj (hv483_2.symm.trans hx483_2)
          injection hv483_2 with hva_ hvn_ hvc_
          rw [hva_] at ge483_2
          rw [hvc_] at ul483_2
          have HL483_2 := ab_ (show Kd.V k62 62 _ w.heap.size _ _ ((rd_T62 l0_2 1).f2) from Kd.V_mk ul483_2 ge483_2)
          clear hva_ hvn_ hvc_ ge483_2 ul483_2
          clear hcc483 hce483
          (try simp only [show (1 : Int).toNat = 1 from rfl, Nat.reduceMul, Nat.reduceEqDiff, Go.Addr.add, ↓reduceIte] at hx483_0)
          (try simp only [show (1 : Int).toNat = 1 from rfl, Nat.reduceMul, Nat.reduceEqDiff, Go.Addr.add, ↓reduceIte] at hx483_1)
          (try simp only [show (1 : Int).toNat = 1 from rfl, Nat.reduceMul, Nat.reduceEqDiff, Go.Addr.add, ↓reduceIte] at hx483_2)
          have qi483 : (1 < l0_2.length) = True := eq_true (by omega)
          (try rw [show ((1 : Int)).toNat = 1 from rfl] at hx483_0)
          (try rw [show 1 * 3 = 3 from rfl] at hx483_0)
          (try rw [show ((1 : Int)).toNat = 1 from rfl] at hx483_1)
          (try rw [show 1 * 3 = 3 from rfl] at hx483_1)
          (try rw [show ((1 : Int)).toNat = 1 from rfl] at hx483_2)
          (try rw [show 1 * 3 = 3 from rfl] at hx483_2)
          have HR483_2 := ab_ hi483_2
          have HC483_2 := ab_ hl483_2
          clear hi483_2 hl483_2
          replace p483 := eq_true p483
          replace q483 := eq_true q483
          have p484 : 0 ≤ (0 : Int) := (by omega)
          have q484 : 0 < (l0_2.length : Int) := of_decide_eq_true (by first | (with_reducible assumption) | assumption)
          obtain ⟨ad484, A484_2, c484_2, e484, hx484_0, hx484_1, hx484_2, hl484_2, hi484_2⟩ := at_T62 (Kd.V_reads' HO0_2.out).2.2 0 p484 q484
          obtain rfl : ad483 = ad484 := (by injection e484)
          obtain ⟨ce484, hce484, hMe484, hcc484⟩ := Kd.V_get HO0_2.out z62 0 p484 (by first | exact q484 | exact of_decide_eq_true (by first | (with_reducible assumption) | assumption) | (have e_ := (Kd.V_reads' HO0_2.out).1; omega))
          obtain ⟨ua484_2, uc484_2, rfl, ul484_2, ge484_2⟩ := k62_openF hMe484
          have hv484_2 := hcc484 2 _ rfl
          rw [add_field _ _ 2 (by omega)] at hv484_2
          replace hv484_2 := Option.some.inj (hv484_2.symm.trans hx484_2)
          injection hv484_2 with hva_ hvn_ hvc_
          rw [hva_] at ge484_2
          rw [hvc_] at ul484_2
          have HL484_2 := ab_ (show Kd.V k62 62 _ w.heap.size _ _ ((rd_T62 l0_2 0).f2) from Kd.V_mk ul484_2 ge484_2)
          clear hva_ hvn_ hvc_ ge484_2 ul484_2
          clear hcc484 hce484
          have qi484 : (0 < l0_2.length) = True := eq_true (by omega)
          (try rw [show ((0 : Int)).toNat = 0 from rfl] at hx484_0)
          (try rw [show 0 * 3 = 0 from rfl] at hx484_0)
          (try rw [Addr.add_zero'] at hx484_0)
          (try rw [show ((0 : Int)).toNat = 0 from rfl] at hx484_1)
          (try rw [show 0 * 3 = 0 from rfl] at hx484_1)
          (try rw [Addr.add_zero'] at hx484_1)
          (try rw [show ((0 : Int)).toNat = 0 from rfl] at hx484_2)
          (try rw [show 0 * 3 = 0 from rfl] at hx484_2)
          (try rw [Addr.add_zero'] at hx484_2)
          have HR484_2 := ab_ hi484_2
          have HC484_2 := ab_ hl484_2
          clear hi484_2 hl484_2
          replace p484 := eq_true p484
          replace q484 := eq_true q484
          refine start_ (n := 13) (S := fun w' => w'.cell? ⟨gb471, 0, none⟩ = some (.int .i64 a0_0) ∧ w'.cell? ⟨gb471, 1, none⟩ = some (.int .i64 a0_1) ∧ w'.cell? ⟨gb471, 2, none⟩ = some (.slice (some ad483) l0_2.length c0_2) ∧ w'.cell? ⟨ad483.block, ad483.off + 3, none⟩ = some (.int .i64 ((rd_T62 l0_2 1).f0)) ∧ w'.cell? ⟨ad483.block, ad483.off + 3 + 1, none⟩ = some (.int .i64 ((rd_T62 l0_2 1).f1)) ∧ w'.cell? ⟨ad483.block, ad483.off + 3 + 2, none⟩ = some (.slice A483_2 ((rd_T62 l0_2 1).f2).length c483_2) ∧ w'.cell? ad483 = some (.int .i64 ((rd_T62 l0_2 0).f0)) ∧ w'.cell? ⟨ad483.block, ad483.off + 1, none⟩ = some (.int .i64 ((rd_T62 l0_2 0).f1)) ∧ w'.cell? ⟨ad483.block, ad483.off + 2, none⟩ = some (.slice A484_2 ((rd_T62 l0_2 0).f2).length c484_2)) (ds := []) #[false, false, false, false, false, false, false, false, false, false, false, false, false] (by kernel_rfl) rfl rfl ⟨(an_ BK471.out 0).trans rfl, (an_ BK471.out 1).trans rfl, (an_ BK471.out 2).trans rfl, hx483_0, hx483_1, hx483_2, hx484_0, hx484_1, hx484_2⟩ (fun hHeld => ?_); refine with_tabW spec_l4Contract.tab6 spec_l4Contract.bits6 (fun HT_ HW_ => ?_)
          generalize w28.drew = w31 at HO0_2 BK471 BK472 HB HL483_2 HL484_2 HR483_2 HR484_2 hx483_0 hx483_1 hx483_2 hx484_0 hx484_1 hx484_2 hHeld ⊢
          refine pure_ (i := 0) (N := some 32) (v := ?_) (a' := ?_) #[true, false, false, false, false, false, false, false, false, false, false, false, false] rfl rfl (any_of HT_.out (by kernel_rfl)) (fun _ _ _ h => h) (Or.inl ⟨by rfl, ?_⟩) ?_ ?_
          rotate_left
          · intro w'
            go_simp
            with_reducible rfl
          rotate_left
          · simp only [Act.put, List.setIfInBounds_toArray, List.set_cons_zero, List.set_cons_succ, i64_w, i32_w]
            rfl
          refine pure_ (i := 4) (N := some 36) (v := ?_) (a' := ?_) #[true, false, false, false, true, false, false, false, false, false, false, false, false] rfl rfl (any_of HT_.out (by kernel_rfl)) (fun _ _ _ h => h) (Or.inl ⟨by rfl, ?_⟩) ?_ ?_
          rotate_left
          · intro w'
            go_simp
            with_reducible rfl
          rotate_left
          · simp only [Act.put, List.setIfInBounds_toArray, List.set_cons_zero, List.set_cons_succ, i64_w, i32_w]
            rfl
          refine take_ (i := 1) (N := some 33) (v := ?_) (a' := ?_) #[true, true, false, false, true, false, false, false, false, false, false, false, false] rfl rfl (take_ofW HT_.out HW_.out (by kernel_rfl)) (fun _ _ _ h => h) (Or.inl ⟨by rfl, ?_⟩) hHeld ?_ ?_
          rotate_left
          · rintro w' ⟨s0, s1, s2, s3, s4, s5, s6, s7, s8⟩
            go_simp
            with_reducible rfl
          rotate_left
          · simp only [Act.put, List.setIfInBounds_toArray, List.set_cons_zero, List.set_cons_succ, i64_w, i32_w]
            rfl
          refine pure_ (i := 2) (N := some 34) (v := ?_) (a' := ?_) #[true, true, true, false, true, false, false, false, false, false, false, false, false] rfl rfl (any_of HT_.out (by kernel_rfl)) (fun _ _ _ h => h) (Or.inl ⟨by rfl, ?_⟩) ?_ ?_
          rotate_left
          · intro w'
            go_simp
            with_reducible rfl
          rotate_left
          · simp only [Act.put, List.setIfInBounds_toArray, List.set_cons_zero, List.set_cons_succ, i64_w, i32_w]
            rfl
          refine take_ (i := 3) (N := some 35) (v := ?_) (a' := ?_) #[true, true, true, true, true, false, false, false, false, false, false, false, false] rfl rfl (take_ofW HT_.out HW_.out (by kernel_rfl)) (fun _ _ _ h => h) (Or.inl ⟨by rfl, ?_⟩) hHeld ?_ ?_
          rotate_left
          · rintro w' ⟨s0, s1, s2, s3, s4, s5, s6, s7, s8⟩
            go_simp
            with_reducible rfl
          rotate_left
          · simp only [Act.put, List.setIfInBounds_toArray, List.set_cons_zero, List.set_cons_succ, i64_w, i32_w]
            rfl
          refine take_ (i := 5) (N := some 37) (v := ?_) (a' := ?_) #[true, true, true, true, true, true, false, false, false, false, false, false, false] rfl rfl (take_ofW HT_.out HW_.out (by kernel_rfl)) (fun _ _ _ h => h) (Or.inl ⟨by rfl, ?_⟩) hHeld ?_ ?_
          rotate_left
          · rintro w' ⟨s0, s1, s2, s3, s4, s5, s6, s7, s8⟩
            go_simp
            with_reducible rfl
          rotate_left
          · simp only [Act.put, List.setIfInBounds_toArray, List.set_cons_zero, List.set_cons_succ, i64_w, i32_w]
            rfl
          refine pure_ (i := 6) (N := some 38) (v := ?_) (a' := ?_) #[true, true, true, true, true, true, true, false, false, false, false, false, false] rfl rfl (any_of HT_.out (by kernel_rfl)) (fun _ _ _ h => h) (Or.inl ⟨by rfl, ?_⟩) ?_ ?_
          rotate_left
          · intro w'
            go_simp
            with_reducible rfl
          rotate_left
          · simp only [Act.put, List.setIfInBounds_toArray, List.set_cons_zero, List.set_cons_succ, i64_w, i32_w]
            rfl
          refine take_ (i := 7) (N := some 39) (v := ?_) (a' := ?_) #[true, true, true, true, true, true, true, true, false, false, false, false, false] rfl rfl (take_ofW HT_.out HW_.out (by kernel_rfl)) (fun _ _ _ h => h) (Or.inl ⟨by rfl, ?_⟩) hHeld ?_ ?_
          rotate_left
          · rintro w' ⟨s0, s1, s2, s3, s4, s5, s6, s7, s8⟩
            go_simp
            with_reducible rfl
          rotate_left
          · simp only [Act.put, List.setIfInBounds_toArray, List.set_cons_zero, List.set_cons_succ, i64_w, i32_w]
            rfl
          refine one_ (i := 8) (N := some 40) #[true, true, true, true, true, true, true, true, true, false, false, false, false] rfl rfl (one_of HT_.out (by kernel_rfl)) (by decide) (fun K hK => ?_)
          refine goes_ Try.func60 (by kernel_rfl) rfl #[.agg #[.int .i64 ((rd_T62 l0_2 1).f0), .int .i64 ((rd_T62 l0_2 1).f1), .slice A483_2 ((rd_T62 l0_2 1).f2).length c483_2], .int .i64 0, .agg #[.int .i64 ((rd_T62 l0_2 0).f0), .int .i64 ((rd_T62 l0_2 0).f1), .slice A484_2 ((rd_T62 l0_2 0).f2).length c484_2]] (by rfl) rfl rfl (by (try simp only [List.map_toArray, List.map_cons, List.map_nil]); first | done | rfl | (simp only [List.length_drop, List.length_take]; rfl)) ?_
          with_reducible refine (spec_l3Put.calls k ((rd_T62 l0_2 1).f0) ((rd_T62 l0_2 1).f1) (fun k_ => (((P0_2_ k_ ∨ w.heap.size ≤ k_) ∧ k_ ≠ gb471) ∧ k_ ≠ gb472)) _ _ ((rd_T62 l0_2 1).f2) 0 ((rd_T62 l0_2 0).f0) ((rd_T62 l0_2 0).f1) _ _ ((rd_T62 l0_2 0).f2) t485 t486 t487 t490 _ ?side1 ?side2 ?side3 A26.out).mono ?_
          (case side1 => exact HL483_2.out)
          (case side2 => repeat (first | exact (by repeat (first | (with_reducible exact HR484_2.out) | (with_reducible refine Kd.C_alloc ?_ _) | (with_reducible refine Kd.C_drewN ?_ _) | (with_reducible refine Kd.C_drew ?_) | exact HR484_2.out)) | (with_reducible refine Kd.C_alloc ?_ _) | (with_reducible refine Kd.C_drewN ?_ _) | (with_reducible refine Kd.C_drew ?_)))
          (case side3 => exact HC484_2.out)
          rintro e w32 ⟨v488, rfl, ho0, hb⟩
          have HS3_ := (hb.cell (aa_ _ _ (hHeld.2.2.2.1))).trans (hHeld.2.2.2.1)
          have HS4_ := (hb.cell (aa_ _ _ (hHeld.2.2.2.2.1))).trans (hHeld.2.2.2.2.1)
          have HS5_ := (hb.cell (aa_ _ _ (hHeld.2.2.2.2.2.1))).trans (hHeld.2.2.2.2.2.1)
          have HS6_ := (hb.cell (aa_ _ _ (hHeld.2.2.2.2.2.2.1))).trans (hHeld.2.2.2.2.2.2.1)
          have HS7_ := (hb.cell (aa_ _ _ (hHeld.2.2.2.2.2.2.2.1))).trans (hHeld.2.2.2.2.2.2.2.1)
          have HS8_ := (hb.cell (aa_ _ _ (hHeld.2.2.2.2.2.2.2.2))).trans (hHeld.2.2.2.2.2.2.2.2)
          refine ⟨_, rfl, ?_⟩
          have n0_ := ab_ (Kd.V_below (by (with_reducible repeat (first | apply Kd.V_alloc | apply Kd.V_drewN | apply Kd.V_drew)); exact HO0_2.out) hb)
          have n1_ := ab_ (Kd.V_below (by (with_reducible repeat (first | apply Kd.V_alloc | apply Kd.V_drewN | apply Kd.V_drew)); exact HL483_2.out) hb)
          have n2_ := ab_ (Kd.V_below (by (with_reducible repeat (first | apply Kd.V_alloc | apply Kd.V_drewN | apply Kd.V_drew)); exact HL484_2.out) hb)
          have n3_ := ab_ (Kd.V_lower (Kd.V_mono (ok' := fun k_ => (P0_2_ k_ ∨ w.heap.size ≤ k_) ∧ k_ ≠ gb471 ∧ k_ ≠ gb472) ho0 (fun k_ hk_ => ⟨Or.elim hk_ (fun hs_ => hs_.1.1) (fun hn_ => (.inr (Nat.le_trans (below_size (by repeat (first | (with_reducible first | exact HB.out | apply ai_ | apply ag_ | apply ah_ | refine af_ ?_ GE471.out | refine af_ ?_ GE472.out) | exact HB.out))) hn_))), Or.elim hk_ (fun hs_ => hs_.1.2) (fun hn_ => (Kd.freshB (g := gb471) (o := .cells #[.int .i64 a0_0, .int .i64 a0_1, .slice (some ad483) l0_2.length c0_2] 62 (0, 0)) (by (with_reducible repeat (first | refine ac_ ?_ _ | refine ae_ ?_ | refine ad_ ?_ _)); exact BK471.out) k_ hn_)), Or.elim hk_ (fun hs_ => hs_.2) (fun hn_ => (Kd.freshB (g := gb472) (o := .cells #[.int .i64 0, .int .i64 0, .slice none 0 0] 62 (0, 0)) (by (with_reducible repeat (first | refine ac_ ?_ _ | refine ae_ ?_ | refine ad_ ?_ _)); exact BK472.out) k_ hn_))⟩)) (below_size (by repeat (first | (with_reducible first | exact HB.out | apply ai_ | apply ag_ | apply ah_ | refine af_ ?_ GE471.out | refine af_ ?_ GE472.out) | exact HB.out))))
          have n4_ := ab_ (blk_below (g := gb471) (o := .cells #[.int .i64 a0_0, .int .i64 a0_1, .slice (some ad483) l0_2.length c0_2] 62 (0, 0)) (by (with_reducible repeat (first | refine ac_ ?_ _ | refine ae_ ?_ | refine ad_ ?_ _)); exact BK471.out) hb)
          have n5_ := ab_ (blk_below (g := gb472) (o := .cells #[.int .i64 0, .int .i64 0, .slice none 0 0] 62 (0, 0)) (by (with_reducible repeat (first | refine ac_ ?_ _ | refine ae_ ?_ | refine ad_ ?_ _)); exact BK472.out) hb)
          have n6_ := ab_ (Kd.C_below (by repeat (first | (with_reducible exact HR483_2.out) | (with_reducible refine Kd.C_alloc ?_ _) | (with_reducible refine Kd.C_drewN ?_ _) | (with_reducible refine Kd.C_drew ?_) | exact HR483_2.out)) hb)
          have n7_ := ab_ (Kd.C_below (by repeat (first | (with_reducible exact HR484_2.out) | (with_reducible refine Kd.C_alloc ?_ _) | (with_reducible refine Kd.C_drewN ?_ _) | (with_reducible refine Kd.C_drew ?_) | exact HR484_2.out)) hb)
          have n8_ := ab_ (as_ (by repeat (first | (with_reducible first | exact HB.out | apply ai_ | apply ag_ | apply ah_ | refine af_ ?_ GE471.out | refine af_ ?_ GE472.out) | exact HB.out)) hb)
          clear HO0_2
          clear HL483_2
          clear HL484_2
          clear BK471
          clear BK472
          clear HR483_2
          clear HR484_2
          clear HB
          have HO0_2 := n0_
          have HL483_2 := n1_
          have HL484_2 := n2_
          have HO489 := n3_
          have BK471 := n4_
          have BK472 := n5_
          have HR483_2 := n6_
          have HR484_2 := n7_
          have HB := n8_
          clear n0_ n1_ n2_ n3_ n4_ n5_ n6_ n7_ n8_
          (try clear hb)
          (try clear hb2)
          (try clear hk)
          (try clear hi)
          (try clear ho0)
          obtain ⟨Ao35, co35, eo35⟩ := Kd.V_slice HO489.out
          (first | subst eo35 | (injection eo35 with f1_ f2_ f3_; have f4_ := f1_.symm; have f5_ := f3_.symm; clear f1_ f2_ f3_; subst f4_; subst f5_))
          refine hK.out _ _ ⟨(an_ BK471.out 0).trans rfl, (an_ BK471.out 1).trans rfl, (an_ BK471.out 2).trans rfl, HS3_, HS4_, HS5_, HS6_, HS7_, HS8_⟩ (fun hHeld => ?_)
          clear hK K
          refine norm_ (a' := ?_) ?_ ?_
          rotate_left
          · show Act.put _ (some 40) _ = _
            simp only [Act.put, List.setIfInBounds_toArray, List.set_cons_zero, List.set_cons_succ, i64_w, i32_w]
            rfl
          refine pure_ (i := 9) (N := some 41) (v := ?_) (a' := ?_) #[true, true, true, true, true, true, true, true, true, true, false, false, false] rfl rfl (any_of HT_.out (by kernel_rfl)) (fun _ _ _ h => h) (Or.inl ⟨by rfl, ?_⟩) ?_ ?_
          rotate_left
          · intro w'
            go_simp
            with_reducible rfl
          rotate_left
          · simp only [Act.put, List.setIfInBounds_toArray, List.set_cons_zero, List.set_cons_succ, i64_w, i32_w]
            rfl
          refine pure_ (i := 10) (N := some 42) (v := ?_) (a' := ?_) #[true, true, true, true, true, true, true, true, true, true, true, false, false] rfl rfl (any_of HT_.out (by kernel_rfl)) (fun _ _ _ h => h) (Or.inl ⟨by rfl, ?_⟩) ?_ ?_
          rotate_left
          · intro w'
            go_simp
            with_reducible rfl
          rotate_left
          · simp only [Act.put, List.setIfInBounds_toArray, List.set_cons_zero, List.set_cons_succ, i64_w, i32_w]
            rfl
          refine one_ (i := 11) (N := none) #[true, true, true, true, true, true, true, true, true, true, true, true, false] rfl rfl (one_of HT_.out (by kernel_rfl)) (by decide) (fun K hK => ?_)
          have hs33 : w32.cell? ⟨gb472, 0, none⟩ = some (.int .i64 0) := (an_ BK472.out 0).trans rfl
          have hfs33 := am_ BK472.out 0
          have hns33_0 := NB471_472.out
          have hms33_0 := NB472_471.out
          have hs34 : w32.cell? ⟨gb472, 1, none⟩ = some (.int .i64 0) := (an_ BK472.out 1).trans rfl
          have hfs34 := am_ BK472.out 1
          have hns34_0 := NB471_472.out
          have hms34_0 := NB472_471.out
          have hs36 : w32.cell? ⟨gb472, 2, none⟩ = some (.slice none 0 0) := (an_ BK472.out 2).trans rfl
          have hfs36 := am_ BK472.out 2
          have hns36_0 := NB471_472.out
          have hms36_0 := NB472_471.out
          refine skip_ (w1 := ?_) (by rfl) rfl ?_ ?_
          rotate_left
          · go_simp
            rfl
          refine hK.out _ _ ⟨((cell_far (p := ⟨gb472, _, none⟩) NB471_472.out _).trans (((cell_far (p := ⟨gb472, _, none⟩) NB471_472.out _).trans (((cell_far (p := ⟨gb472, _, none⟩) NB471_472.out _).trans (hHeld.1)))))), ((cell_far (p := ⟨gb472, _, none⟩) NB471_472.out _).trans (((cell_far (p := ⟨gb472, _, none⟩) NB471_472.out _).trans (((cell_far (p := ⟨gb472, _, none⟩) NB471_472.out _).trans (hHeld.2.1)))))), ((cell_far (p := ⟨gb472, _, none⟩) NB471_472.out _).trans (((cell_far (p := ⟨gb472, _, none⟩) NB471_472.out _).trans (((cell_far (p := ⟨gb472, _, none⟩) NB471_472.out _).trans (hHeld.2.2.1)))))), ((cell_far (p := ⟨gb472, _, none⟩) (by first | exact Kd.own_blk (V62_away HO0_2.out HN62 (fun _ hk => hk.2)) | (rw [al_]; exact Kd.own_blk (V62_away HO0_2.out HN62 (fun _ hk => hk.2))) | (show (Addr.add _ _).block ≠ _; rw [al_]; exact Kd.own_blk (V62_away HO0_2.out HN62 (fun _ hk => hk.2))) | (dsimp only; exact Kd.own_blk (V62_away HO0_2.out HN62 (fun _ hk => hk.2)))) _).trans (((cell_far (p := ⟨gb472, _, none⟩) (by first | exact Kd.own_blk (V62_away HO0_2.out HN62 (fun _ hk => hk.2)) | (rw [al_]; exact Kd.own_blk (V62_away HO0_2.out HN62 (fun _ hk => hk.2))) | (show (Addr.add _ _).block ≠ _; rw [al_]; exact Kd.own_blk (V62_away HO0_2.out HN62 (fun _ hk => hk.2))) | (dsimp only; exact Kd.own_blk (V62_away HO0_2.out HN62 (fun _ hk => hk.2)))) _).trans (((cell_far (p := ⟨gb472, _, none⟩) (by first | exact Kd.own_blk (V62_away HO0_2.out HN62 (fun _ hk => hk.2)) | (rw [al_]; exact Kd.own_blk (V62_away HO0_2.out HN62 (fun _ hk => hk.2))) | (show (Addr.add _ _).block ≠ _; rw [al_]; exact Kd.own_blk (V62_away HO0_2.out HN62 (fun _ hk => hk.2))) | (dsimp only; exact Kd.own_blk (V62_away HO0_2.out HN62 (fun _ hk => hk.2)))) _).trans (hHeld.2.2.2.1)))))), ((cell_far (p := ⟨gb472, _, none⟩) (by first | exact Kd.own_blk (V62_away HO0_2.out HN62 (fun _ hk => hk.2)) | (rw [al_]; exact Kd.own_blk (V62_away HO0_2.out HN62 (fun _ hk => hk.2))) | (show (Addr.add _ _).block ≠ _; rw [al_]; exact Kd.own_blk (V62_away HO0_2.out HN62 (fun _ hk => hk.2))) | (dsimp only; exact Kd.own_blk (V62_away HO0_2.out HN62 (fun _ hk => hk.2)))) _).trans (((cell_far (p := ⟨gb472, _, none⟩) (by first | exact Kd.own_blk (V62_away HO0_2.out HN62 (fun _ hk => hk.2)) | (rw [al_]; exact Kd.own_blk (V62_away HO0_2.out HN62 (fun _ hk => hk.2))) | (show (Addr.add _ _).block ≠ _; rw [al_]; exact Kd.own_blk (V62_away HO0_2.out HN62 (fun _ hk => hk.2))) | (dsimp only; exact Kd.own_blk (V62_away HO0_2.out HN62 (fun _ hk => hk.2)))) _).trans (((cell_far (p := ⟨gb472, _, none⟩) (by first | exact Kd.own_blk (V62_away HO0_2.out HN62 (fun _ hk => hk.2)) | (rw [al_]; exact Kd.own_blk (V62_away HO0_2.out HN62 (fun _ hk => hk.2))) | (show (Addr.add _ _).block ≠ _; rw [al_]; exact Kd.own_blk (V62_away HO0_2.out HN62 (fun _ hk => hk.2))) | (dsimp only; exact Kd.own_blk (V62_away HO0_2.out HN62 (fun _ hk => hk.2)))) _).trans (hHeld.2.2.2.2.1)))))), ((cell_far (p := ⟨gb472, _, none⟩) (by first | exact Kd.own_blk (V62_away HO0_2.out HN62 (fun _ hk => hk.2)) | (rw [al_]; exact Kd.own_blk (V62_away HO0_2.out HN62 (fun _ hk => hk.2))) | (show (Addr.add _ _).block ≠ _; rw [al_]; exact Kd.own_blk (V62_away HO0_2.out HN62 (fun _ hk => hk.2))) | (dsimp only; exact Kd.own_blk (V62_away HO0_2.out HN62 (fun _ hk => hk.2)))) _).trans (((cell_far (p := ⟨gb472, _, none⟩) (by first | exact Kd.own_blk (V62_away HO0_2.out HN62 (fun _ hk => hk.2)) | (rw [al_]; exact Kd.own_blk (V62_away HO0_2.out HN62 (fun _ hk => hk.2))) | (show (Addr.add _ _).block ≠ _; rw [al_]; exact Kd.own_blk (V62_away HO0_2.out HN62 (fun _ hk => hk.2))) | (dsimp only; exact Kd.own_blk (V62_away HO0_2.out HN62 (fun _ hk => hk.2)))) _).trans (((cell_far (p := ⟨gb472, _, none⟩) (by first | exact Kd.own_blk (V62_away HO0_2.out HN62 (fun _ hk => hk.2)) | (rw [al_]; exact Kd.own_blk (V62_away HO0_2.out HN62 (fun _ hk => hk.2))) | (show (Addr.add _ _).block ≠ _; rw [al_]; exact Kd.own_blk (V62_away HO0_2.out HN62 (fun _ hk => hk.2))) | (dsimp only; exact Kd.own_blk (V62_away HO0_2.out HN62 (fun _ hk => hk.2)))) _).trans (hHeld.2.2.2.2.2.1)))))), ((cell_far (p := ⟨gb472, _, none⟩) (by first | exact Kd.own_blk (V62_away HO0_2.out HN62 (fun _ hk => hk.2)) | (rw [al_]; exact Kd.own_blk (V62_away HO0_2.out HN62 (fun _ hk => hk.2))) | (show (Addr.add _ _).block ≠ _; rw [al_]; exact Kd.own_blk (V62_away HO0_2.out HN62 (fun _ hk => hk.2))) | (dsimp only; exact Kd.own_blk (V62_away HO0_2.out HN62 (fun _ hk => hk.2)))) _).trans (((cell_far (p := ⟨gb472, _, none⟩) (by first | exact Kd.own_blk (V62_away HO0_2.out HN62 (fun _ hk => hk.2)) | (rw [al_]; exact Kd.own_blk (V62_away HO0_2.out HN62 (fun _ hk => hk.2))) | (show (Addr.add _ _).block ≠ _; rw [al_]; exact Kd.own_blk (V62_away HO0_2.out HN62 (fun _ hk => hk.2))) | (dsimp only; exact Kd.own_blk (V62_away HO0_2.out HN62 (fun _ hk => hk.2)))) _).trans (((cell_far (p := ⟨gb472, _, none⟩) (by first | exact Kd.own_blk (V62_away HO0_2.out HN62 (fun _ hk => hk.2)) | (rw [al_]; exact Kd.own_blk (V62_away HO0_2.out HN62 (fun _ hk => hk.2))) | (show (Addr.add _ _).block ≠ _; rw [al_]; exact Kd.own_blk (V62_away HO0_2.out HN62 (fun _ hk => hk.2))) | (dsimp only; exact Kd.own_blk (V62_away HO0_2.out HN62 (fun _ hk => hk.2)))) _).trans (hHeld.2.2.2.2.2.2.1)))))), ((cell_far (p := ⟨gb472, _, none⟩) (by first | exact Kd.own_blk (V62_away HO0_2.out HN62 (fun _ hk => hk.2)) | (rw [al_]; exact Kd.own_blk (V62_away HO0_2.out HN62 (fun _ hk => hk.2))) | (show (Addr.add _ _).block ≠ _; rw [al_]; exact Kd.own_blk (V62_away HO0_2.out HN62 (fun _ hk => hk.2))) | (dsimp only; exact Kd.own_blk (V62_away HO0_2.out HN62 (fun _ hk => hk.2)))) _).trans (((cell_far (p := ⟨gb472, _, none⟩) (by first | exact Kd.own_blk (V62_away HO0_2.out HN62 (fun _ hk => hk.2)) | (rw [al_]; exact Kd.own_blk (V62_away HO0_2.out HN62 (fun _ hk => hk.2))) | (show (Addr.add _ _).block ≠ _; rw [al_]; exact Kd.own_blk (V62_away HO0_2.out HN62 (fun _ hk => hk.2))) | (dsimp only; exact Kd.own_blk (V62_away HO0_2.out HN62 (fun _ hk => hk.2)))) _).trans (((cell_far (p := ⟨gb472, _, none⟩) (by first | exact Kd.own_blk (V62_away HO0_2.out HN62 (fun _ hk => hk.2)) | (rw [al_]; exact Kd.own_blk (V62_away HO0_2.out HN62 (fun _ hk => hk.2))) | (show (Addr.add _ _).block ≠ _; rw [al_]; exact Kd.own_blk (V62_away HO0_2.out HN62 (fun _ hk => hk.2))) | (dsimp only; exact Kd.own_blk (V62_away HO0_2.out HN62 (fun _ hk => hk.2)))) _).trans (hHeld.2.2.2.2.2.2.2.1)))))), ((cell_far (p := ⟨gb472, _, none⟩) (by first | exact Kd.own_blk (V62_away HO0_2.out HN62 (fun _ hk => hk.2)) | (rw [al_]; exact Kd.own_blk (V62_away HO0_2.out HN62 (fun _ hk => hk.2))) | (show (Addr.add _ _).block ≠ _; rw [al_]; exact Kd.own_blk (V62_away HO0_2.out HN62 (fun _ hk => hk.2))) | (dsimp only; exact Kd.own_blk (V62_away HO0_2.out HN62 (fun _ hk => hk.2)))) _).trans (((cell_far (p := ⟨gb472, _, none⟩) (by first | exact Kd.own_blk (V62_away HO0_2.out HN62 (fun _ hk => hk.2)) | (rw [al_]; exact Kd.own_blk (V62_away HO0_2.out HN62 (fun _ hk => hk.2))) | (show (Addr.add _ _).block ≠ _; rw [al_]; exact Kd.own_blk (V62_away HO0_2.out HN62 (fun _ hk => hk.2))) | (dsimp only; exact Kd.own_blk (V62_away HO0_2.out HN62 (fun _ hk => hk.2)))) _).trans (((cell_far (p := ⟨gb472, _, none⟩) (by first | exact Kd.own_blk (V62_away HO0_2.out HN62 (fun _ hk => hk.2)) | (rw [al_]; exact Kd.own_blk (V62_away HO0_2.out HN62 (fun _ hk => hk.2))) | (show (Addr.add _ _).block ≠ _; rw [al_]; exact Kd.own_blk (V62_away HO0_2.out HN62 (fun _ hk => hk.2))) | (dsimp only; exact Kd.own_blk (V62_away HO0_2.out HN62 (fun _ hk => hk.2)))) _).trans (hHeld.2.2.2.2.2.2.2.2))))))⟩ (fun hHeld => ?_)
          clear hK K
          refine pure_ (i := 12) (N := some 3) (v := ?_) (a' := ?_) #[true, true, true, true, true, true, true, true, true, true, true, true, true] rfl rfl (any_of HT_.out (by kernel_rfl)) (fun _ _ _ h => h) (Or.inl ⟨by rfl, ?_⟩) ?_ ?_
          rotate_left
          · intro w'
            go_simp
            with_reducible rfl
          rotate_left
          · simp only [Act.put, List.setIfInBounds_toArray, List.set_cons_zero, List.set_cons_succ, i64_w, i32_w]
            rfl
          refine done_ (done_of HT_.out (by kernel_rfl)) ?_
          try go_wp2
          refine bodyPost_ret (results_ct rfl _ _ gb472 62 #[.int .i64 t485, .int .i64 t486, .slice Ao35 t487.length co35] (0, 0) _ rfl (by (with_reducible repeat (first | refine ac_ ?_ _ | refine ae_ ?_ | refine ad_ ?_ _)); refine blk_put (cs := #[.int .i64 t485, .int .i64 t486, .slice none 0 0]) ?_ 2 _ rfl; (with_reducible repeat (first | refine ac_ ?_ _ | refine ae_ ?_ | refine ad_ ?_ _)); refine blk_put (cs := #[.int .i64 t485, .int .i64 0, .slice none 0 0]) ?_ 1 _ rfl; (with_reducible repeat (first | refine ac_ ?_ _ | refine ae_ ?_ | refine ad_ ?_ _)); refine blk_put (cs := #[.int .i64 0, .int .i64 0, .slice none 0 0]) ?_ 0 _ rfl; (with_reducible repeat (first | refine ac_ ?_ _ | refine ae_ ?_ | refine ad_ ?_ _)); exact BK472.out) Try.underlying62 rfl (by kernel_rfl)) rfl ?_
          exact ⟨_, by first | rfl | (simp [errW_none, errW_some] <;> rfl) | (simp [*, errW_none, errW_some] <;> rfl), by (with_reducible repeat (first | apply Kd.V_alloc | apply Kd.V_drewN | apply Kd.V_drew)); exact Kd.V_mono (Kd.V_far (p := ⟨gb472, 2, none⟩) (Kd.V_far (p := ⟨gb472, 1, none⟩) (Kd.V_far (p := ⟨gb472, 0, none⟩) (Kd.V_mono HO489.out (fun k_ hk => (⟨hk, hk.2.2⟩ : _ ∧ k_ ≠ gb472))) (fun _ hk => hk.2) (.int .i64 t485)) (fun _ hk => hk.2) (.int .i64 t486)) (fun _ hk => hk.2) (.slice Ao35 t487.length co35)) (fun _ hk => hk.1.1), by repeat (first | (with_reducible first | exact HB.out | apply ai_ | apply ag_ | apply ah_ | refine af_ ?_ GE471.out | refine af_ ?_ GE472.out) | exact HB.out)⟩
        · rw [if_neg c25] at H
          exact absurd H (by simp)
      · rw [if_neg c24] at H
        exact absurd H (by simp)
    · rw [if_neg c23] at H
      have c23b0 : (a0_0 == 7) = false := beq_eq_false_iff_ne.mpr c23
      have c23b1 : (a0_0 != 7) = true := bne_iff_ne.mpr c23
      by_cases c37 : a0_0 = 5
      · rw [if_pos c37] at H
        subst c37
        by_cases d1 : 1 < (l0_2.length : Int)
        · rw [if_pos d1] at H
          by_cases d2 : ((rd_T62 l0_2 0).f0) = 2 ∧ ((rd_T62 l0_2 1).f0) = 2 ∧ -1000000 ≤ ((rd_T62 l0_2 0).f1) + ((rd_T62 l0_2 1).f1) ∧ ((rd_T62 l0_2 0).f1) + ((rd_T62 l0_2 1).f1) ≤ 1000000
          · rw [if_pos d2] at H
            exact k5_use hs0_2 d1 d2 H
          · rw [if_neg d2] at H; cases H
        · rw [if_neg d1] at H; cases H
      · rw [if_neg c37] at H
        have c37b0 : (a0_0 == 5) = false := beq_eq_false_iff_ne.mpr c37
        have c37b1 : (a0_0 != 5) = true := bne_iff_ne.mpr c37
        by_cases c112 : a0_0 = 6
        · rw [if_pos c112] at H
          have c112b0 : (a0_0 == 6) = true := beq_iff_eq.mpr c112
          have c112b1 : (a0_0 != 6) = false := bne_eq_false_iff_eq.mpr c112
          clear c112
          by_cases c113 : 0 < (l0_2.length : Int)
          · rw [if_pos c113] at H
            have c113b0 : decide (0 < (l0_2.length : Int)) = true := ar_ c113
            have c113b1 : decide (0 < l0_2.length) = true := ar_ (by omega)
            have HN62 : 0 < l0_2.length := by omega
            clear c113
            by_cases c114 : ((rd_T62 l0_2 0).f0) = 2
            · rw [if_pos c114] at H
              have c114b0 : (((rd_T62 l0_2 0).f0) == 2) = true := beq_iff_eq.mpr c114
              have c114b1 : (((rd_T62 l0_2 0).f0) != 2) = false := bne_eq_false_iff_eq.mpr c114
              clear c114
              by_cases c115 : ((rd_T62 l0_2 0).f1) = 0
              · rw [if_pos c115] at H
                have c115b0 : (((rd_T62 l0_2 0).f1) == 0) = true := beq_iff_eq.mpr c115
                have c115b1 : (((rd_T62 l0_2 0).f1) != 0) = false := bne_eq_false_iff_eq.mpr c115
                clear c115
                by_cases c116 : 1 < (l0_2.length : Int)
                · rw [if_pos c116] at H
                  have c116b0 : decide (1 < (l0_2.length : Int)) = true := ar_ c116
                  have c116b1 : decide (1 < l0_2.length) = true := ar_ (by omega)
                  clear c116
                  simp only [Option.some.injEq, Prod.mk.injEq] at H
                  obtain ⟨rfl, rfl, rfl, rfl⟩ := H
                  go_enter Try.func108, Try.ntmps108
                  go_wp2_with (first | ((with_reducible refine gate_dst (N := 1) rfl ?_); refine box_event ?hg (N := 1) ?hd (cs := #[.int .i64 a0_0, .int .i64 a0_1, .slice A0_2 l0_2.length c0_2]) (t := 62) ?hr ?_; (case hd => rfl); (case hg => rfl); (case hr => first | (go_simp; done) | (go_simp; rfl)); intro gb471 hg w117 hbox hb; have n0_ := ab_ (Kd.V_below (Kd.V_elderB (by (with_reducible repeat (first | apply Kd.V_alloc | apply Kd.V_drewN | apply Kd.V_drew)); exact HO0_2.out) gb471 (Nat.le_of_eq hg.symm)) hb); have n1_ := ab_ (as_ (by repeat (first | (with_reducible first | exact HB.out | apply ai_ | apply ag_ | apply ah_) | exact HB.out)) hb); have n2_ := ab_ (hbox); have n3_ := ab_ ((by rw [hg]; exact (below_size (by repeat (first | (with_reducible first | exact HB.out | apply ai_ | apply ag_ | apply ah_) | exact HB.out))) : w.heap.size ≤ gb471)); have n4_ := ab_ ((by rw [hg]; exact (below_size (by repeat (first | (with_reducible first | exact HB.out | apply ai_ | apply ag_ | apply ah_) | exact HB.out))) : w.heap.size ≤ gb471)); clear HO0_2; clear HB; have HO0_2 := n0_; have HB := n1_; have BK471 := n2_; have GW471 := n3_; have GE471 := n4_; clear n0_ n1_ n2_ n3_ n4_; clear hb hbox hg) | ((with_reducible refine gate_dst (N := 2) rfl ?_); refine box_event ?hg (N := 2) ?hd (cs := #[.int .i64 0, .int .i64 0, .slice none 0 0]) (t := 62) ?hr ?_; (case hd => rfl); (case hg => rfl); (case hr => first | (go_simp; done) | (go_simp; rfl)); intro gb472 hg w118 hbox hb; have n0_ := ab_ (Kd.V_below (Kd.V_elderB (by (with_reducible repeat (first | apply Kd.V_alloc | apply Kd.V_drewN | apply Kd.V_drew)); exact HO0_2.out) gb472 (Nat.le_of_eq hg.symm)) hb); have n1_ := ab_ (blk_below (g := gb471) (o := .cells #[.int .i64 a0_0, .int .i64 a0_1, .slice A0_2 l0_2.length c0_2] 62 (0, 0)) (by (with_reducible repeat (first | refine ac_ ?_ _ | refine ae_ ?_ | refine ad_ ?_ _)); exact BK471.out) hb); have n2_ := ab_ (as_ (by repeat (first | (with_reducible first | exact HB.out | apply ai_ | apply ag_ | apply ah_ | refine af_ ?_ GE471.out) | exact HB.out)) hb); have n3_ := ab_ (hbox); have n4_ := ab_ ((by rw [hg]; exact (below_size (by repeat (first | (with_reducible first | exact HB.out | apply ai_ | apply ag_ | apply ah_ | refine af_ ?_ GE471.out) | exact HB.out))) : w.heap.size ≤ gb472)); have n5_ := ab_ ((by rw [hg]; exact (below_size (by repeat (first | (with_reducible first | exact HB.out | apply ai_ | apply ag_ | apply ah_ | refine af_ ?_ GE471.out) | exact HB.out))) : w.heap.size ≤ gb472)); have n6_ := ab_ ((by rw [hg]; exact ak_ (blk_lt (g := gb471) (o := .cells #[.int .i64 a0_0, .int .i64 a0_1, .slice A0_2 l0_2.length c0_2] 62 (0, 0)) (by (with_reducible repeat (first | refine ac_ ?_ _ | refine ae_ ?_ | refine ad_ ?_ _)); exact BK471.out)) : gb471 ≠ gb472)); have n7_ := ab_ ((by rw [hg]; exact Nat.ne_of_gt (blk_lt (g := gb471) (o := .cells #[.int .i64 a0_0, .int .i64 a0_1, .slice A0_2 l0_2.length c0_2] 62 (0, 0)) (by (with_reducible repeat (first | refine ac_ ?_ _ | refine ae_ ?_ | refine ad_ ?_ _)); exact BK471.out)) : gb472 ≠ gb471)); clear HO0_2; clear BK471; clear HB; have HO0_2 := n0_; have BK471 := n1_; have HB := n2_; have BK472 := n3_; have GW472 := n4_; have GE472 := n5_; have NB471_472 := n6_; have NB472_471 := n7_; clear n0_ n1_ n2_ n3_ n4_ n5_ n6_ n7_; clear hb hbox hg; have hnb119 := NB471_472.out; have hnc119 := NB472_471.out; have hcz120_0 : w118.cell? ⟨gb471, 0, none⟩ = some (.int .i64 a0_0) := (an_ BK471.out 0).trans rfl; have hcz120_1 : w118.cell? ⟨gb471, 1, none⟩ = some (.int .i64 a0_1) := (an_ BK471.out 1).trans rfl; have hcz120_2 : w118.cell? ⟨gb471, 2, none⟩ = some (.slice A0_2 l0_2.length c0_2) := (an_ BK471.out 2).trans rfl; have hfz120_0 := am_ BK471.out 0; have hfz120_1 := am_ BK471.out 1; have hfz120_2 := am_ BK471.out 2; have p496 : 0 ≤ (0 : Int) := (by omega); have q496 : 0 < (l0_2.length : Int) := of_decide_eq_true (by first | (with_reducible assumption) | assumption); obtain ⟨ad496, A496_2, c496_2, e496, hx496_0, hx496_1, hx496_2, hl496_2, hi496_2⟩ := at_T62 (Kd.V_reads' HO0_2.out).2.2 0 p496 q496; cases e496; obtain ⟨ce496, hce496, hMe496, hcc496⟩ := Kd.V_get HO0_2.out z62 0 p496 (by first | exact q496 | exact of_decide_eq_true (by first | (with_reducible assumption) | assumption) | (have e_ := (Kd.V_reads' HO0_2.out).1; omega)); obtain ⟨ua496_2, uc496_2, rfl, ul496_2, ge496_2⟩ := k62_openF hMe496; have hv496_2 := hcc496 2 _ rfl; rw [add_field _ _ 2 (by omega)] at hv496_2; replace hv496_2 := Option.some.inj (hv496_2.symm.trans hx496_2); injection hv496_2 with hva_ hvn_ hvc_; rw [hva_] at ge496_2; rw [hvc_] at ul496_2; have HL496_2 := ab_ (show Kd.V k62 62 _ w.heap.size _ _ ((rd_T62 l0_2 0).f2) from Kd.V_mk ul496_2 ge496_2); clear hva_ hvn_ hvc_ ge496_2 ul496_2; clear hcc496 hce496; have qi496 : (0 < l0_2.length) = True := eq_true (by omega); (try rw [show ((0 : Int)).toNat = 0 from rfl] at hx496_0); (try rw [show 0 * 3 = 0 from rfl] at hx496_0); (try rw [Addr.add_zero'] at hx496_0); (try rw [show ((0 : Int)).toNat = 0 from rfl] at hx496_1); (try rw [show 0 * 3 = 0 from rfl] at hx496_1); (try rw [Addr.add_zero'] at hx496_1); (try rw [show ((0 : Int)).toNat = 0 from rfl] at hx496_2); (try rw [show 0 * 3 = 0 from rfl] at hx496_2); (try rw [Addr.add_zero'] at hx496_2); have HR496_2 := ab_ hi496_2; have HC496_2 := ab_ hl496_2; clear hi496_2 hl496_2; replace p496 := eq_true p496; replace q496 := eq_true q496; have p497 : 0 ≤ (0 : Int) := (by omega); have q497 : 0 < (l0_2.length : Int) := of_decide_eq_true (by first | (with_reducible assumption) | assumption); obtain ⟨ad497, A497_2, c497_2, e497, hx497_0, hx497_1, hx497_2, hl497_2, hi497_2⟩ := at_T62 (Kd.V_reads' HO0_2.out).2.2 0 p497 q497; obtain rfl : ad496 = ad497 := (by injection e497); obtain ⟨ce497, hce497, hMe497, hcc497⟩ := Kd.V_get HO0_2.out z62 0 p497 (by first | exact q497 | exact of_decide_eq_true (by first | (with_reducible assumption) | assumption) | (have e_ := (Kd.V_reads' HO0_2.out).1; omega)); obtain ⟨ua497_2, uc497_2, rfl, ul497_2, ge497_2⟩ := k62_openF hMe497; have hv497_2 := hcc497 2 _ rfl; rw [add_field _ _ 2 (by omega)] at hv497_2; replace hv497_2 := Option.some.inj (hv497_2.symm.trans hx497_2); injection hv497_2 with hva_ hvn_ hvc_; rw [hva_] at ge497_2; rw [hvc_] at ul497_2; have HL497_2 := ab_ (show Kd.V k62 62 _ w.heap.size _ _ ((rd_T62 l0_2 0).f2) from Kd.V_mk ul497_2 ge497_2); clear hva_ hvn_ hvc_ ge497_2 ul497_2; clear hcc497 hce497; have qi497 : (0 < l0_2.length) = True := eq_true (by omega); (try rw [show ((0 : Int)).toNat = 0 from rfl] at hx497_0); (try rw [show 0 * 3 = 0 from rfl] at hx497_0); (try rw [Addr.add_zero'] at hx497_0); (try rw [show ((0 : Int)).toNat = 0 from rfl] at hx497_1); (try rw [show 0 * 3 = 0 from rfl] at hx497_1); (try rw [Addr.add_zero'] at hx497_1); (try rw [show ((0 : Int)).toNat = 0 from rfl] at hx497_2); (try rw [show 0 * 3 = 0 from rfl] at hx497_2); (try rw [Addr.add_zero'] at hx497_2); have HR497_2 := ab_ hi497_2; have HC497_2 := ab_ hl497_2; clear hi497_2 hl497_2; replace p497 := eq_true p497; replace q497 := eq_true q497; have ea_ := Option.some.inj (hx496_2.symm.trans hx497_2); injection ea_ with ea_ en_ ec_; subst ea_; subst ec_; clear en_; have p498 : 0 ≤ (1 : Int) := (by omega); have q498 : 1 < (l0_2.length : Int) := of_decide_eq_true (by first | (with_reducible assumption) | assumption); obtain ⟨ad498, A498_2, c498_2, e498, hx498_0, hx498_1, hx498_2, hl498_2, hi498_2⟩ := at_T62 (Kd.V_reads' HO0_2.out).2.2 1 p498 q498; obtain rfl : ad496 = ad498 := (by injection e498); obtain ⟨ce498, hce498, hMe498, hcc498⟩ := Kd.V_get HO0_2.out z62 1 p498 (by first | exact q498 | exact of_decide_eq_true (by first | (with_reducible assumption) | assumption) | (have e_ := (Kd.V_reads' HO0_2.out).1; omega)); obtain ⟨ua498_2, uc498_2, rfl, ul498_2, ge498_2⟩ := k62_openF hMe498; have hv498_2 := hcc498 2 _ rfl; rw [add_field _ _ 2 (by omega)] at hv498_2; replace hv498_2 := Option.some.inj (hv498_2.symm.trans hx498_2); injection hv498_2 with hva_ hvn_ hvc_; rw [hva_] at ge498_2; rw [hvc_] at ul498_2; have HL498_2 := ab_ (show Kd.V k62 62 _ w.heap.size _ _ ((rd_T62 l0_2 1).f2) from Kd.V_mk ul498_2 ge498_2); clear hva_ hvn_ hvc_ ge498_2 ul498_2; clear hcc498 hce498; (try simp only [show (1 : Int).toNat = 1 from rfl, Nat.reduceMul, Nat.reduceEqDiff, Go.Addr.add, ↓reduceIte] at hx498_0); (try simp only [show (1 : Int).toNat = 1 from rfl, Nat.reduceMul, Nat.reduceEqDiff, Go.Addr.add, ↓reduceIte] at hx498_1); (try simp only [show (1 : Int).toNat = 1 from rfl, Nat.reduceMul, Nat.reduceEqDiff, Go.Addr.add, ↓reduceIte] at hx498_2); have qi498 : (1 < l0_2.length) = True := eq_true (by omega); (try rw [show ((1 : Int)).toNat = 1 from rfl] at hx498_0); (try rw [show 1 * 3 = 3 from rfl] at hx498_0); (try rw [show ((1 : Int)).toNat = 1 from rfl] at hx498_1); (try rw [show 1 * 3 = 3 from rfl] at hx498_1); (try rw [show ((1 : Int)).toNat = 1 from rfl] at hx498_2); (try rw [show 1 * 3 = 3 from rfl] at hx498_2); have HR498_2 := ab_ hi498_2; have HC498_2 := ab_ hl498_2; clear hi498_2 hl498_2; replace p498 := eq_true p498; replace q498 := eq_true q498; have hcz121_0 : w118.cell? ⟨gb472, 0, none⟩ = some (.int .i64 0) := (an_ BK472.out 0).trans rfl; have hcz121_1 : w118.cell? ⟨gb472, 1, none⟩ = some (.int .i64 0) := (an_ BK472.out 1).trans rfl; have hcz121_2 : w118.cell? ⟨gb472, 2, none⟩ = some (.slice none 0 0) := (an_ BK472.out 2).trans rfl; have hfz121_0 := am_ BK472.out 0; have hfz121_1 := am_ BK472.out 1; have hfz121_2 := am_ BK472.out 2))
                  refine bodyPost_ret (results_ct rfl _ _ gb472 62 #[.int .i64 ((rd_T62 l0_2 1).f0), .int .i64 ((rd_T62 l0_2 1).f1), .slice A498_2 ((rd_T62 l0_2 1).f2).length c498_2] (0, 0) _ rfl (by (with_reducible repeat (first | refine ac_ ?_ _ | refine ae_ ?_ | refine ad_ ?_ _)); refine blk_put (cs := #[.int .i64 ((rd_T62 l0_2 1).f0), .int .i64 ((rd_T62 l0_2 1).f1), .slice none 0 0]) ?_ 2 _ rfl; (with_reducible repeat (first | refine ac_ ?_ _ | refine ae_ ?_ | refine ad_ ?_ _)); refine blk_put (cs := #[.int .i64 ((rd_T62 l0_2 1).f0), .int .i64 0, .slice none 0 0]) ?_ 1 _ rfl; (with_reducible repeat (first | refine ac_ ?_ _ | refine ae_ ?_ | refine ad_ ?_ _)); refine blk_put (cs := #[.int .i64 0, .int .i64 0, .slice none 0 0]) ?_ 0 _ rfl; (with_reducible repeat (first | refine ac_ ?_ _ | refine ae_ ?_ | refine ad_ ?_ _)); exact BK472.out) Try.underlying62 rfl (by kernel_rfl)) rfl ?_
                  exact ⟨_, by first | rfl | (simp [errW_none, errW_some] <;> rfl) | (simp [*, errW_none, errW_some] <;> rfl), by (with_reducible repeat (first | apply Kd.V_alloc | apply Kd.V_drewN | apply Kd.V_drew)); exact Kd.V_mono (Kd.V_far (p := ⟨gb472, 2, none⟩) (Kd.V_far (p := ⟨gb472, 1, none⟩) (Kd.V_far (p := ⟨gb472, 0, none⟩) (Kd.V_mono HL498_2.out (fun k_ hk => (⟨hk, hk.2⟩ : _ ∧ k_ ≠ gb472))) (fun _ hk => hk.2) (.int .i64 ((rd_T62 l0_2 1).f0))) (fun _ hk => hk.2) (.int .i64 ((rd_T62 l0_2 1).f1))) (fun _ hk => hk.2) (.slice A498_2 ((rd_T62 l0_2 1).f2).length c498_2)) (fun _ hk => hk.1.1.1), by repeat (first | (with_reducible first | exact HB.out | apply ai_ | apply ag_ | apply ah_ | refine af_ ?_ GE471.out | refine af_ ?_ GE472.out) | exact HB.out)⟩
                · rw [if_neg c116] at H
                  exact absurd H (by simp)
              · rw [if_neg c115] at H
                have c115b0 : (((rd_T62 l0_2 0).f1) == 0) = false := beq_eq_false_iff_ne.mpr c115
                have c115b1 : (((rd_T62 l0_2 0).f1) != 0) = true := bne_iff_ne.mpr c115
                by_cases c122 : 2 < (l0_2.length : Int)
                · rw [if_pos c122] at H
                  have c122b0 : decide (2 < (l0_2.length : Int)) = true := ar_ c122
                  have c122b1 : decide (2 < l0_2.length) = true := ar_ (by omega)
                  clear c122
                  simp only [Option.some.injEq, Prod.mk.injEq] at H
                  obtain ⟨rfl, rfl, rfl, rfl⟩ := H
                  go_enter Try.func108, Try.ntmps108
                  go_wp2_with (first | ((with_reducible refine gate_dst (N := 1) rfl ?_); refine box_event ?hg (N := 1) ?hd (cs := #[.int .i64 a0_0, .int .i64 a0_1, .slice A0_2 l0_2.length c0_2]) (t := 62) ?hr ?_; (case hd => rfl); (case hg => rfl); (case hr => first | (go_simp; done) | (go_simp; rfl)); intro gb471 hg w123 hbox hb; have n0_ := ab_ (Kd.V_below (Kd.V_elderB (by (with_reducible repeat (first | apply Kd.V_alloc | apply Kd.V_drewN | apply Kd.V_drew)); exact HO0_2.out) gb471 (Nat.le_of_eq hg.symm)) hb); have n1_ := ab_ (as_ (by repeat (first | (with_reducible first | exact HB.out | apply ai_ | apply ag_ | apply ah_) | exact HB.out)) hb); have n2_ := ab_ (hbox); have n3_ := ab_ ((by rw [hg]; exact (below_size (by repeat (first | (with_reducible first | exact HB.out | apply ai_ | apply ag_ | apply ah_) | exact HB.out))) : w.heap.size ≤ gb471)); have n4_ := ab_ ((by rw [hg]; exact (below_size (by repeat (first | (with_reducible first | exact HB.out | apply ai_ | apply ag_ | apply ah_) | exact HB.out))) : w.heap.size ≤ gb471)); clear HO0_2; clear HB; have HO0_2 := n0_; have HB := n1_; have BK471 := n2_; have GW471 := n3_; have GE471 := n4_; clear n0_ n1_ n2_ n3_ n4_; clear hb hbox hg) | ((with_reducible refine gate_dst (N := 2) rfl ?_); refine box_event ?hg (N := 2) ?hd (cs := #[.int .i64 0, .int .i64 0, .slice none 0 0]) (t := 62) ?hr ?_; (case hd => rfl); (case hg => rfl); (case hr => first | (go_simp; done) | (go_simp; rfl)); intro gb472 hg w124 hbox hb; have n0_ := ab_ (Kd.V_below (Kd.V_elderB (by (with_reducible repeat (first | apply Kd.V_alloc | apply Kd.V_drewN | apply Kd.V_drew)); exact HO0_2.out) gb472 (Nat.le_of_eq hg.symm)) hb); have n1_ := ab_ (blk_below (g := gb471) (o := .cells #[.int .i64 a0_0, .int .i64 a0_1, .slice A0_2 l0_2.length c0_2] 62 (0, 0)) (by (with_reducible repeat (first | refine ac_ ?_ _ | refine ae_ ?_ | refine ad_ ?_ _)); exact BK471.out) hb); have n2_ := ab_ (as_ (by repeat (first | (with_reducible first | exact HB.out | apply ai_ | apply ag_ | apply ah_ | refine af_ ?_ GE471.out) | exact HB.out)) hb); have n3_ := ab_ (hbox); have n4_ := ab_ ((by rw [hg]; exact (below_size (by repeat (first | (with_reducible first | exact HB.out | apply ai_ | apply ag_ | apply ah_ | refine af_ ?_ GE471.out) | exact HB.out))) : w.heap.size ≤ gb472)); have n5_ := ab_ ((by rw [hg]; exact (below_size (by repeat (first | (with_reducible first | exact HB.out | apply ai_ | apply ag_ | apply ah_ | refine af_ ?_ GE471.out) | exact HB.out))) : w.heap.size ≤ gb472)); have n6_ := ab_ ((by rw [hg]; exact ak_ (blk_lt (g := gb471) (o := .cells #[.int .i64 a0_0, .int .i64 a0_1, .slice A0_2 l0_2.length c0_2] 62 (0, 0)) (by (with_reducible repeat (first | refine ac_ ?_ _ | refine ae_ ?_ | refine ad_ ?_ _)); exact BK471.out)) : gb471 ≠ gb472)); have n7_ := ab_ ((by rw [hg]; exact Nat.ne_of_gt (blk_lt (g := gb471) (o := .cells #[.int .i64 a0_0, .int .i64 a0_1, .slice A0_2 l0_2.length c0_2] 62 (0, 0)) (by (with_reducible repeat (first | refine ac_ ?_ _ | refine ae_ ?_ | refine ad_ ?_ _)); exact BK471.out)) : gb472 ≠ gb471)); clear HO0_2; clear BK471; clear HB; have HO0_2 := n0_; have BK471 := n1_; have HB := n2_; have BK472 := n3_; have GW472 := n4_; have GE472 := n5_; have NB471_472 := n6_; have NB472_471 := n7_; clear n0_ n1_ n2_ n3_ n4_ n5_ n6_ n7_; clear hb hbox hg; have hnb125 := NB471_472.out; have hnc125 := NB472_471.out; have hcz126_0 : w124.cell? ⟨gb471, 0, none⟩ = some (.int .i64 a0_0) := (an_ BK471.out 0).trans rfl; have hcz126_1 : w124.cell? ⟨gb471, 1, none⟩ = some (.int .i64 a0_1) := (an_ BK471.out 1).trans rfl; have hcz126_2 : w124.cell? ⟨gb471, 2, none⟩ = some (.slice A0_2 l0_2.length c0_2) := (an_ BK471.out 2).trans rfl; have hfz126_0 := am_ BK471.out 0; have hfz126_1 := am_ BK471.out 1; have hfz126_2 := am_ BK471.out 2; have p496 : 0 ≤ (0 : Int) := (by omega); have q496 : 0 < (l0_2.length : Int) := of_decide_eq_true (by first | (with_reducible assumption) | assumption); obtain ⟨ad496, A496_2, c496_2, e496, hx496_0, hx496_1, hx496_2, hl496_2, hi496_2⟩ := at_T62 (Kd.V_reads' HO0_2.out).2.2 0 p496 q496; cases e496; obtain ⟨ce496, hce496, hMe496, hcc496⟩ := Kd.V_get HO0_2.out z62 0 p496 (by first | exact q496 | exact of_decide_eq_true (by first | (with_reducible assumption) | assumption) | (have e_ := (Kd.V_reads' HO0_2.out).1; omega)); obtain ⟨ua496_2, uc496_2, rfl, ul496_2, ge496_2⟩ := k62_openF hMe496; have hv496_2 := hcc496 2 _ rfl; rw [add_field _ _ 2 (by omega)] at hv496_2; replace hv496_2 := Option.some.inj (hv496_2.symm.trans hx496_2); injection hv496_2 with hva_ hvn_ hvc_; rw [hva_] at ge496_2; rw [hvc_] at ul496_2; have HL496_2 := ab_ (show Kd.V k62 62 _ w.heap.size _ _ ((rd_T62 l0_2 0).f2) from Kd.V_mk ul496_2 ge496_2); clear hva_ hvn_ hvc_ ge496_2 ul496_2; clear hcc496 hce496; have qi496 : (0 < l0_2.length) = True := eq_true (by omega); (try rw [show ((0 : Int)).toNat = 0 from rfl] at hx496_0); (try rw [show 0 * 3 = 0 from rfl] at hx496_0); (try rw [Addr.add_zero'] at hx496_0); (try rw [show ((0 : Int)).toNat = 0 from rfl] at hx496_1); (try rw [show 0 * 3 = 0 from rfl] at hx496_1); (try rw [Addr.add_zero'] at hx496_1); (try rw [show ((0 : Int)).toNat = 0 from rfl] at hx496_2); (try rw [show 0 * 3 = 0 from rfl] at hx496_2); (try rw [Addr.add_zero'] at hx496_2); have HR496_2 := ab_ hi496_2; have HC496_2 := ab_ hl496_2; clear hi496_2 hl496_2; replace p496 := eq_true p496; replace q496 := eq_true q496; have p497 : 0 ≤ (0 : Int) := (by omega); have q497 : 0 < (l0_2.length : Int) := of_decide_eq_true (by first | (with_reducible assumption) | assumption); obtain ⟨ad497, A497_2, c497_2, e497, hx497_0, hx497_1, hx497_2, hl497_2, hi497_2⟩ := at_T62 (Kd.V_reads' HO0_2.out).2.2 0 p497 q497; obtain rfl : ad496 = ad497 := (by injection e497); obtain ⟨ce497, hce497, hMe497, hcc497⟩ := Kd.V_get HO0_2.out z62 0 p497 (by first | exact q497 | exact of_decide_eq_true (by first | (with_reducible assumption) | assumption) | (have e_ := (Kd.V_reads' HO0_2.out).1; omega)); obtain ⟨ua497_2, uc497_2, rfl, ul497_2, ge497_2⟩ := k62_openF hMe497; have hv497_2 := hcc497 2 _ rfl; rw [add_field _ _ 2 (by omega)] at hv497_2; replace hv497_2 := Option.some.inj (hv497_2.symm.trans hx497_2); injection hv497_2 with hva_ hvn_ hvc_; rw [hva_] at ge497_2; rw [hvc_] at ul497_2; have HL497_2 := ab_ (show Kd.V k62 62 _ w.heap.size _ _ ((rd_T62 l0_2 0).f2) from Kd.V_mk ul497_2 ge497_2); clear hva_ hvn_ hvc_ ge497_2 ul497_2; clear hcc497 hce497; have qi497 : (0 < l0_2.length) = True := eq_true (by omega); (try rw [show ((0 : Int)).toNat = 0 from rfl] at hx497_0); (try rw [show 0 * 3 = 0 from rfl] at hx497_0); (try rw [Addr.add_zero'] at hx497_0); (try rw [show ((0 : Int)).toNat = 0 from rfl] at hx497_1); (try rw [show 0 * 3 = 0 from rfl] at hx497_1); (try rw [Addr.add_zero'] at hx497_1); (try rw [show ((0 : Int)).toNat = 0 from rfl] at hx497_2); (try rw [show 0 * 3 = 0 from rfl] at hx497_2); (try rw [Addr.add_zero'] at hx497_2); have HR497_2 := ab_ hi497_2; have HC497_2 := ab_ hl497_2; clear hi497_2 hl497_2; replace p497 := eq_true p497; replace q497 := eq_true q497; have ea_ := Option.some.inj (hx496_2.symm.trans hx497_2); injection ea_ with ea_ en_ ec_; subst ea_; subst ec_; clear en_; have p499 : 0 ≤ (2 : Int) := (by omega); have q499 : 2 < (l0_2.length : Int) := of_decide_eq_true (by first | (with_reducible assumption) | assumption); obtain ⟨ad499, A499_2, c499_2, e499, hx499_0, hx499_1, hx499_2, hl499_2, hi499_2⟩ := at_T62 (Kd.V_reads' HO0_2.out).2.2 2 p499 q499; obtain rfl : ad496 = ad499 := (by injection e499); obtain ⟨ce499, hce499, hMe499, hcc499⟩ := Kd.V_get HO0_2.out z62 2 p499 (by first | exact q499 | exact of_decide_eq_true (by first | (with_reducible assumption) | assumption) | (have e_ := (Kd.V_reads' HO0_2.out).1; omega)); obtain ⟨ua499_2, uc499_2, rfl, ul499_2, ge499_2⟩ := k62_openF hMe499; have hv499_2 := hcc499 2 _ rfl; rw [add_field _ _ 2 (by omega)] at hv499_2; replace hv499_2 := Option.some.inj (hv499_2.symm.trans hx499_2); injection hv499_2 with hva_ hvn_ hvc_; rw [hva_] at ge499_2; rw [hvc_] at ul499_2; have HL499_2 := ab_ (show Kd.V k62 62 _ w.heap.size _ _ ((rd_T62 l0_2 2).f2) from Kd.V_mk ul499_2 ge499_2); clear hva_ hvn_ hvc_ ge499_2 ul499_2; clear hcc499 hce499; (try simp only [show (2 : Int).toNat = 2 from rfl, Nat.reduceMul, Nat.reduceEqDiff, Go.Addr.add, ↓reduceIte] at hx499_0); (try simp only [show (2 : Int).toNat = 2 from rfl, Nat.reduceMul, Nat.reduceEqDiff, Go.Addr.add, ↓reduceIte] at hx499_1); (try simp only [show (2 : Int).toNat = 2 from rfl, Nat.reduceMul, Nat.reduceEqDiff, Go.Addr.add, ↓reduceIte] at hx499_2); have qi499 : (2 < l0_2.length) = True := eq_true (by omega); (try rw [show ((2 : Int)).toNat = 2 from rfl] at hx499_0); (try rw [show 2 * 3 = 6 from rfl] at hx499_0); (try rw [show ((2 : Int)).toNat = 2 from rfl] at hx499_1); (try rw [show 2 * 3 = 6 from rfl] at hx499_1); (try rw [show ((2 : Int)).toNat = 2 from rfl] at hx499_2); (try rw [show 2 * 3 = 6 from rfl] at hx499_2); have HR499_2 := ab_ hi499_2; have HC499_2 := ab_ hl499_2; clear hi499_2 hl499_2; replace p499 := eq_true p499; replace q499 := eq_true q499; have hcz127_0 : w124.cell? ⟨gb472, 0, none⟩ = some (.int .i64 0) := (an_ BK472.out 0).trans rfl; have hcz127_1 : w124.cell? ⟨gb472, 1, none⟩ = some (.int .i64 0) := (an_ BK472.out 1).trans rfl; have hcz127_2 : w124.cell? ⟨gb472, 2, none⟩ = some (.slice none 0 0) := (an_ BK472.out 2).trans rfl; have hfz127_0 := am_ BK472.out 0; have hfz127_1 := am_ BK472.out 1; have hfz127_2 := am_ BK472.out 2))
                  refine bodyPost_ret (results_ct rfl _ _ gb472 62 #[.int .i64 ((rd_T62 l0_2 2).f0), .int .i64 ((rd_T62 l0_2 2).f1), .slice A499_2 ((rd_T62 l0_2 2).f2).length c499_2] (0, 0) _ rfl (by (with_reducible repeat (first | refine ac_ ?_ _ | refine ae_ ?_ | refine ad_ ?_ _)); refine blk_put (cs := #[.int .i64 ((rd_T62 l0_2 2).f0), .int .i64 ((rd_T62 l0_2 2).f1), .slice none 0 0]) ?_ 2 _ rfl; (with_reducible repeat (first | refine ac_ ?_ _ | refine ae_ ?_ | refine ad_ ?_ _)); refine blk_put (cs := #[.int .i64 ((rd_T62 l0_2 2).f0), .int .i64 0, .slice none 0 0]) ?_ 1 _ rfl; (with_reducible repeat (first | refine ac_ ?_ _ | refine ae_ ?_ | refine ad_ ?_ _)); refine blk_put (cs := #[.int .i64 0, .int .i64 0, .slice none 0 0]) ?_ 0 _ rfl; (with_reducible repeat (first | refine ac_ ?_ _ | refine ae_ ?_ | refine ad_ ?_ _)); exact BK472.out) Try.underlying62 rfl (by kernel_rfl)) rfl ?_
                  exact ⟨_, by first | rfl | (simp [errW_none, errW_some] <;> rfl) | (simp [*, errW_none, errW_some] <;> rfl), by (with_reducible repeat (first | apply Kd.V_alloc | apply Kd.V_drewN | apply Kd.V_drew)); exact Kd.V_mono (Kd.V_far (p := ⟨gb472, 2, none⟩) (Kd.V_far (p := ⟨gb472, 1, none⟩) (Kd.V_far (p := ⟨gb472, 0, none⟩) (Kd.V_mono HL499_2.out (fun k_ hk => (⟨hk, hk.2⟩ : _ ∧ k_ ≠ gb472))) (fun _ hk => hk.2) (.int .i64 ((rd_T62 l0_2 2).f0))) (fun _ hk => hk.2) (.int .i64 ((rd_T62 l0_2 2).f1))) (fun _ hk => hk.2) (.slice A499_2 ((rd_T62 l0_2 2).f2).length c499_2)) (fun _ hk => hk.1.1.1), by repeat (first | (with_reducible first | exact HB.out | apply ai_ | apply ag_ | apply ah_ | refine af_ ?_ GE471.out | refine af_ ?_ GE472.out) | exact HB.out)⟩
                · rw [if_neg c122] at H
                  exact absurd H (by simp)
            · rw [if_neg c114] at H
              have c114b0 : (((rd_T62 l0_2 0).f0) == 2) = false := beq_eq_false_iff_ne.mpr c114
              have c114b1 : (((rd_T62 l0_2 0).f0) != 2) = true := bne_iff_ne.mpr c114
              simp only [Option.some.injEq, Prod.mk.injEq] at H
              obtain ⟨rfl, rfl, rfl, rfl⟩ := H
              go_enter Try.func108, Try.ntmps108
              go_wp2_with (first | ((with_reducible refine gate_dst (N := 1) rfl ?_); refine box_event ?hg (N := 1) ?hd (cs := #[.int .i64 a0_0, .int .i64 a0_1, .slice A0_2 l0_2.length c0_2]) (t := 62) ?hr ?_; (case hd => rfl); (case hg => rfl); (case hr => first | (go_simp; done) | (go_simp; rfl)); intro gb471 hg w128 hbox hb; have n0_ := ab_ (Kd.V_below (Kd.V_elderB (by (with_reducible repeat (first | apply Kd.V_alloc | apply Kd.V_drewN | apply Kd.V_drew)); exact HO0_2.out) gb471 (Nat.le_of_eq hg.symm)) hb); have n1_ := ab_ (as_ (by repeat (first | (with_reducible first | exact HB.out | apply ai_ | apply ag_ | apply ah_) | exact HB.out)) hb); have n2_ := ab_ (hbox); have n3_ := ab_ ((by rw [hg]; exact (below_size (by repeat (first | (with_reducible first | exact HB.out | apply ai_ | apply ag_ | apply ah_) | exact HB.out))) : w.heap.size ≤ gb471)); have n4_ := ab_ ((by rw [hg]; exact (below_size (by repeat (first | (with_reducible first | exact HB.out | apply ai_ | apply ag_ | apply ah_) | exact HB.out))) : w.heap.size ≤ gb471)); clear HO0_2; clear HB; have HO0_2 := n0_; have HB := n1_; have BK471 := n2_; have GW471 := n3_; have GE471 := n4_; clear n0_ n1_ n2_ n3_ n4_; clear hb hbox hg) | ((with_reducible refine gate_dst (N := 2) rfl ?_); refine box_event ?hg (N := 2) ?hd (cs := #[.int .i64 0, .int .i64 0, .slice none 0 0]) (t := 62) ?hr ?_; (case hd => rfl); (case hg => rfl); (case hr => first | (go_simp; done) | (go_simp; rfl)); intro gb472 hg w129 hbox hb; have n0_ := ab_ (Kd.V_below (Kd.V_elderB (by (with_reducible repeat (first | apply Kd.V_alloc | apply Kd.V_drewN | apply Kd.V_drew)); exact HO0_2.out) gb472 (Nat.le_of_eq hg.symm)) hb); have n1_ := ab_ (blk_below (g := gb471) (o := .cells #[.int .i64 a0_0, .int .i64 a0_1, .slice A0_2 l0_2.length c0_2] 62 (0, 0)) (by (with_reducible repeat (first | refine ac_ ?_ _ | refine ae_ ?_ | refine ad_ ?_ _)); exact BK471.out) hb); have n2_ := ab_ (as_ (by repeat (first | (with_reducible first | exact HB.out | apply ai_ | apply ag_ | apply ah_ | refine af_ ?_ GE471.out) | exact HB.out)) hb); have n3_ := ab_ (hbox); have n4_ := ab_ ((by rw [hg]; exact (below_size (by repeat (first | (with_reducible first | exact HB.out | apply ai_ | apply ag_ | apply ah_ | refine af_ ?_ GE471.out) | exact HB.out))) : w.heap.size ≤ gb472)); have n5_ := ab_ ((by rw [hg]; exact (below_size (by repeat (first | (with_reducible first | exact HB.out | apply ai_ | apply ag_ | apply ah_ | refine af_ ?_ GE471.out) | exact HB.out))) : w.heap.size ≤ gb472)); have n6_ := ab_ ((by rw [hg]; exact ak_ (blk_lt (g := gb471) (o := .cells #[.int .i64 a0_0, .int .i64 a0_1, .slice A0_2 l0_2.length c0_2] 62 (0, 0)) (by (with_reducible repeat (first | refine ac_ ?_ _ | refine ae_ ?_ | refine ad_ ?_ _)); exact BK471.out)) : gb471 ≠ gb472)); have n7_ := ab_ ((by rw [hg]; exact Nat.ne_of_gt (blk_lt (g := gb471) (o := .cells #[.int .i64 a0_0, .int .i64 a0_1, .slice A0_2 l0_2.length c0_2] 62 (0, 0)) (by (with_reducible repeat (first | refine ac_ ?_ _ | refine ae_ ?_ | refine ad_ ?_ _)); exact BK471.out)) : gb472 ≠ gb471)); clear HO0_2; clear BK471; clear HB; have HO0_2 := n0_; have BK471 := n1_; have HB := n2_; have BK472 := n3_; have GW472 := n4_; have GE472 := n5_; have NB471_472 := n6_; have NB472_471 := n7_; clear n0_ n1_ n2_ n3_ n4_ n5_ n6_ n7_; clear hb hbox hg; have hnb130 := NB471_472.out; have hnc130 := NB472_471.out; have hcz131_0 : w129.cell? ⟨gb471, 0, none⟩ = some (.int .i64 a0_0) := (an_ BK471.out 0).trans rfl; have hcz131_1 : w129.cell? ⟨gb471, 1, none⟩ = some (.int .i64 a0_1) := (an_ BK471.out 1).trans rfl; have hcz131_2 : w129.cell? ⟨gb471, 2, none⟩ = some (.slice A0_2 l0_2.length c0_2) := (an_ BK471.out 2).trans rfl; have hfz131_0 := am_ BK471.out 0; have hfz131_1 := am_ BK471.out 1; have hfz131_2 := am_ BK471.out 2; have p496 : 0 ≤ (0 : Int) := (by omega); have q496 : 0 < (l0_2.length : Int) := of_decide_eq_true (by first | (with_reducible assumption) | assumption); obtain ⟨ad496, A496_2, c496_2, e496, hx496_0, hx496_1, hx496_2, hl496_2, hi496_2⟩ := at_T62 (Kd.V_reads' HO0_2.out).2.2 0 p496 q496; cases e496; obtain ⟨ce496, hce496, hMe496, hcc496⟩ := Kd.V_get HO0_2.out z62 0 p496 (by first | exact q496 | exact of_decide_eq_true (by first | (with_reducible assumption) | assumption) | (have e_ := (Kd.V_reads' HO0_2.out).1; omega)); obtain ⟨ua496_2, uc496_2, rfl, ul496_2, ge496_2⟩ := k62_openF hMe496; have hv496_2 := hcc496 2 _ rfl; rw [add_field _ _ 2 (by omega)] at hv496_2; replace hv496_2 := Option.some.inj (hv496_2.symm.trans hx496_2); injection hv496_2 with hva_ hvn_ hvc_; rw [hva_] at ge496_2; rw [hvc_] at ul496_2; have HL496_2 := ab_ (show Kd.V k62 62 _ w.heap.size _ _ ((rd_T62 l0_2 0).f2) from Kd.V_mk ul496_2 ge496_2); clear hva_ hvn_ hvc_ ge496_2 ul496_2; clear hcc496 hce496; have qi496 : (0 < l0_2.length) = True := eq_true (by omega); (try rw [show ((0 : Int)).toNat = 0 from rfl] at hx496_0); (try rw [show 0 * 3 = 0 from rfl] at hx496_0); (try rw [Addr.add_zero'] at hx496_0); (try rw [show ((0 : Int)).toNat = 0 from rfl] at hx496_1); (try rw [show 0 * 3 = 0 from rfl] at hx496_1); (try rw [Addr.add_zero'] at hx496_1); (try rw [show ((0 : Int)).toNat = 0 from rfl] at hx496_2); (try rw [show 0 * 3 = 0 from rfl] at hx496_2); (try rw [Addr.add_zero'] at hx496_2); have HR496_2 := ab_ hi496_2; have HC496_2 := ab_ hl496_2; clear hi496_2 hl496_2; replace p496 := eq_true p496; replace q496 := eq_true q496; have hcz132_0 : w129.cell? ⟨gb472, 0, none⟩ = some (.int .i64 0) := (an_ BK472.out 0).trans rfl; have hcz132_1 : w129.cell? ⟨gb472, 1, none⟩ = some (.int .i64 0) := (an_ BK472.out 1).trans rfl; have hcz132_2 : w129.cell? ⟨gb472, 2, none⟩ = some (.slice none 0 0) := (an_ BK472.out 2).trans rfl; have hfz132_0 := am_ BK472.out 0; have hfz132_1 := am_ BK472.out 1; have hfz132_2 := am_ BK472.out 2))
              refine bodyPost_ret (results_ct rfl _ _ gb472 62 #[.int .i64 0, .int .i64 0, .slice none 0 0] (0, 0) _ rfl (by (with_reducible repeat (first | refine ac_ ?_ _ | refine ae_ ?_ | refine ad_ ?_ _)); refine blk_put (cs := #[.int .i64 0, .int .i64 0, .slice none 0 0]) ?_ 2 _ rfl; (with_reducible repeat (first | refine ac_ ?_ _ | refine ae_ ?_ | refine ad_ ?_ _)); refine blk_put (cs := #[.int .i64 0, .int .i64 0, .slice none 0 0]) ?_ 1 _ rfl; (with_reducible repeat (first | refine ac_ ?_ _ | refine ae_ ?_ | refine ad_ ?_ _)); refine blk_put (cs := #[.int .i64 0, .int .i64 0, .slice none 0 0]) ?_ 0 _ rfl; (with_reducible repeat (first | refine ac_ ?_ _ | refine ae_ ?_ | refine ad_ ?_ _)); exact BK472.out) Try.underlying62 rfl (by kernel_rfl)) rfl ?_
              exact ⟨_, by first | rfl | (simp [errW_none, errW_some] <;> rfl) | (simp [*, errW_none, errW_some] <;> rfl), (by exact Kd.V_nil _ _ _ _ _), by repeat (first | (with_reducible first | exact HB.out | apply ai_ | apply ag_ | apply ah_ | refine af_ ?_ GE471.out | refine af_ ?_ GE472.out) | exact HB.out)⟩
          · rw [if_neg c113] at H
            exact absurd H (by simp)
        · rw [if_neg c112] at H
          have c112b0 : (a0_0 == 6) = false := beq_eq_false_iff_ne.mpr c112
          have c112b1 : (a0_0 != 6) = true := bne_iff_ne.mpr c112
          simp only [Option.some.injEq, Prod.mk.injEq] at H
          obtain ⟨rfl, rfl, rfl, rfl⟩ := H
          go_enter Try.func108, Try.ntmps108
          go_wp2_with (first | ((with_reducible refine gate_dst (N := 1) rfl ?_); refine box_event ?hg (N := 1) ?hd (cs := #[.int .i64 a0_0, .int .i64 a0_1, .slice A0_2 l0_2.length c0_2]) (t := 62) ?hr ?_; (case hd => rfl); (case hg => rfl); (case hr => first | (go_simp; done) | (go_simp; rfl)); intro gb471 hg w133 hbox hb; have n0_ := ab_ (Kd.V_below (Kd.V_elderB (by (with_reducible repeat (first | apply Kd.V_alloc | apply Kd.V_drewN | apply Kd.V_drew)); exact HO0_2.out) gb471 (Nat.le_of_eq hg.symm)) hb); have n1_ := ab_ (as_ (by repeat (first | (with_reducible first | exact HB.out | apply ai_ | apply ag_ | apply ah_) | exact HB.out)) hb); have n2_ := ab_ (hbox); have n3_ := ab_ ((by rw [hg]; exact (below_size (by repeat (first | (with_reducible first | exact HB.out | apply ai_ | apply ag_ | apply ah_) | exact HB.out))) : w.heap.size ≤ gb471)); have n4_ := ab_ ((by rw [hg]; exact (below_size (by repeat (first | (with_reducible first | exact HB.out | apply ai_ | apply ag_ | apply ah_) | exact HB.out))) : w.heap.size ≤ gb471)); clear HO0_2; clear HB; have HO0_2 := n0_; have HB := n1_; have BK471 := n2_; have GW471 := n3_; have GE471 := n4_; clear n0_ n1_ n2_ n3_ n4_; clear hb hbox hg) | ((with_reducible refine gate_dst (N := 2) rfl ?_); refine box_event ?hg (N := 2) ?hd (cs := #[.int .i64 0, .int .i64 0, .slice none 0 0]) (t := 62) ?hr ?_; (case hd => rfl); (case hg => rfl); (case hr => first | (go_simp; done) | (go_simp; rfl)); intro gb472 hg w134 hbox hb; have n0_ := ab_ (Kd.V_below (Kd.V_elderB (by (with_reducible repeat (first | apply Kd.V_alloc | apply Kd.V_drewN | apply Kd.V_drew)); exact HO0_2.out) gb472 (Nat.le_of_eq hg.symm)) hb); have n1_ := ab_ (blk_below (g := gb471) (o := .cells #[.int .i64 a0_0, .int .i64 a0_1, .slice A0_2 l0_2.length c0_2] 62 (0, 0)) (by (with_reducible repeat (first | refine ac_ ?_ _ | refine ae_ ?_ | refine ad_ ?_ _)); exact BK471.out) hb); have n2_ := ab_ (as_ (by repeat (first | (with_reducible first | exact HB.out | apply ai_ | apply ag_ | apply ah_ | refine af_ ?_ GE471.out) | exact HB.out)) hb); have n3_ := ab_ (hbox); have n4_ := ab_ ((by rw [hg]; exact (below_size (by repeat (first | (with_reducible first | exact HB.out | apply ai_ | apply ag_ | apply ah_ | refine af_ ?_ GE471.out) | exact HB.out))) : w.heap.size ≤ gb472)); have n5_ := ab_ ((by rw [hg]; exact (below_size (by repeat (first | (with_reducible first | exact HB.out | apply ai_ | apply ag_ | apply ah_ | refine af_ ?_ GE471.out) | exact HB.out))) : w.heap.size ≤ gb472)); have n6_ := ab_ ((by rw [hg]; exact ak_ (blk_lt (g := gb471) (o := .cells #[.int .i64 a0_0, .int .i64 a0_1, .slice A0_2 l0_2.length c0_2] 62 (0, 0)) (by (with_reducible repeat (first | refine ac_ ?_ _ | refine ae_ ?_ | refine ad_ ?_ _)); exact BK471.out)) : gb471 ≠ gb472)); have n7_ := ab_ ((by rw [hg]; exact Nat.ne_of_gt (blk_lt (g := gb471) (o := .cells #[.int .i64 a0_0, .int .i64 a0_1, .slice A0_2 l0_2.length c0_2] 62 (0, 0)) (by (with_reducible repeat (first | refine ac_ ?_ _ | refine ae_ ?_ | refine ad_ ?_ _)); exact BK471.out)) : gb472 ≠ gb471)); clear HO0_2; clear BK471; clear HB; have HO0_2 := n0_; have BK471 := n1_; have HB := n2_; have BK472 := n3_; have GW472 := n4_; have GE472 := n5_; have NB471_472 := n6_; have NB472_471 := n7_; clear n0_ n1_ n2_ n3_ n4_ n5_ n6_ n7_; clear hb hbox hg; have hnb135 := NB471_472.out; have hnc135 := NB472_471.out; have hcz136_0 : w134.cell? ⟨gb471, 0, none⟩ = some (.int .i64 a0_0) := (an_ BK471.out 0).trans rfl; have hcz136_1 : w134.cell? ⟨gb471, 1, none⟩ = some (.int .i64 a0_1) := (an_ BK471.out 1).trans rfl; have hcz136_2 : w134.cell? ⟨gb471, 2, none⟩ = some (.slice A0_2 l0_2.length c0_2) := (an_ BK471.out 2).trans rfl; have hfz136_0 := am_ BK471.out 0; have hfz136_1 := am_ BK471.out 1; have hfz136_2 := am_ BK471.out 2; have hcz137_0 : w134.cell? ⟨gb472, 0, none⟩ = some (.int .i64 0) := (an_ BK472.out 0).trans rfl; have hcz137_1 : w134.cell? ⟨gb472, 1, none⟩ = some (.int .i64 0) := (an_ BK472.out 1).trans rfl; have hcz137_2 : w134.cell? ⟨gb472, 2, none⟩ = some (.slice none 0 0) := (an_ BK472.out 2).trans rfl; have hfz137_0 := am_ BK472.out 0; have hfz137_1 := am_ BK472.out 1; have hfz137_2 := am_ BK472.out 2))
          refine bodyPost_ret (results_ct rfl _ _ gb472 62 #[.int .i64 0, .int .i64 0, .slice none 0 0] (0, 0) _ rfl (by (with_reducible repeat (first | refine ac_ ?_ _ | refine ae_ ?_ | refine ad_ ?_ _)); refine blk_put (cs := #[.int .i64 0, .int .i64 0, .slice none 0 0]) ?_ 2 _ rfl; (with_reducible repeat (first | refine ac_ ?_ _ | refine ae_ ?_ | refine ad_ ?_ _)); refine blk_put (cs := #[.int .i64 0, .int .i64 0, .slice none 0 0]) ?_ 1 _ rfl; (with_reducible repeat (first | refine ac_ ?_ _ | refine ae_ ?_ | refine ad_ ?_ _)); refine blk_put (cs := #[.int .i64 0, .int .i64 0, .slice none 0 0]) ?_ 0 _ rfl; (with_reducible repeat (first | refine ac_ ?_ _ | refine ae_ ?_ | refine ad_ ?_ _)); exact BK472.out) Try.underlying62 rfl (by kernel_rfl)) rfl ?_
          exact ⟨_, by first | rfl | (simp [errW_none, errW_some] <;> rfl) | (simp [*, errW_none, errW_some] <;> rfl), (by exact Kd.V_nil _ _ _ _ _), by repeat (first | (with_reducible first | exact HB.out | apply ai_ | apply ag_ | apply ah_ | refine af_ ?_ GE471.out | refine af_ ?_ GE472.out) | exact HB.out)⟩
end Go.Proofs.Ytgoiifpimpnlpaa.PAll

end
