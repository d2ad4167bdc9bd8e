-- Made by pack.py of the texts that the law reaches.
import Derived.ChangeArms
import Derived.ChangeSame
import Derived.DataReads
import Derived.Deep.Strs
import Derived.Lib.SmallJoins
import Derived.Test.YtgoiifpimpnlpaaV2
section
namespace Go.Proofs.Ytgoiifpimpnlpaa.PAll
open Go.RowKit Go.Proofs.YtgoiifpimpnlpaaW.PrintWords Go.Proofs.YtgoiifpimpnlpaaW.PrintLast Go.Proofs.YtgoiifpimpnlpaaW.PrintMore
set_option linter.unusedVariables false
set_option linter.unusedSimpArgs false
def freeOf (l : List S66) : List Int × Bool := match tmof l with
  | none => ([], false)
  | some t => (freeS t, true)
def freeOfS (l : List S66) : List Int × Bool := match tmof l with
  | none => ([], false)
  | some t => ((freeT t 0).foldl ins [], true)
def IntsPost (r : List Int × Bool) (w : World) (e : Ending) (w' : World) : Prop := ∃ v, e = .returned (.tuple #[v, .bool r.2]) ∧ Kd.R (Kd.int .i64) 3 w' w.heap.size (fun _ => True) v r.1 ∧ Below w.heap.size w w'
set_option maxRecDepth 100000 in
theorem FreeIn_calls (l : List S66) (A : Option Addr) (c : Nat) (w : World) (hr : Kd.C k66 w A l.length l) (hc : l.length ≤ c) :
    Calls Try.prog 38 #[.slice A l.length c] w (IntsPost (freeOf l) w) := by
  unfold freeOf
  cases hq : tmof l with
  | none =>
    have HQ := Lib.hid hq
    clear hq
    unfold IntsPost
    go_enter Try.func38, Try.ntmps38
    go_wp2_with (go_at_call 49; refine (termOf_calls l A c _ hr hc).mono ?_; rw [HQ.out]; rintro e w1 ⟨hb, rfl⟩)
    go_ret2
    exact ⟨_, rfl, Kd.R_nil _ _ _ _ _, hb⟩
  | some t =>
    have HW := Lib.hid (tmof_wf hq)
    have HV := Lib.hid (tmof_vb hq)
    have HQ := Lib.hid hq
    clear hq
    unfold IntsPost
    go_enter Try.func38, Try.ntmps38
    go_wp2_with fail
    refine (termOf_calls l A c _ hr hc).mono ?_
    rw [HQ.out]
    rintro e w1 ⟨hb, g, rfl, ha⟩
    have HA := Lib.hid (show TAt (fun _ => True) w1 g t from TAt.step (fun _ _ _ => rfl) (fun _ _ _ => trivial) ha)
    have HB := Lib.hid hb
    clear ha hb
    have C := Lib.hid (free_calls 99 (by omega) t g w1 HV.out.1 HW.out (by have := HV.out.2; omega) HA.out)
    unfold ptr at C ⊢
    go_wp2_with fail
    refine C.out.mono ?_
    rintro e w2 ⟨v, rfl, hR, hb2⟩
    have HR := Lib.hid hR
    have HB2 := Lib.hid hb2
    clear hR hb2
    go_wp2
    go_ret2
    exact ⟨_, rfl, Kd.R_lower HR.out HB.out.size, below_step HB.out HB2.out⟩
set_option maxRecDepth 100000 in
set_option maxHeartbeats 1000000 in
theorem specFreeIn_calls (l : List S66) (A : Option Addr) (c : Nat) (w : World) (hr : Kd.C k66 w A l.length l) (hc : l.length ≤ c) :
    Calls Try.prog 37 #[.slice A l.length c] w (IntsPost (freeOfS l) w) := by
  have h := l3Tree_eq l 3606 (Nat.le_refl _)
  unfold freeOfS
  cases hq : tmof l with
  | none =>
    rw [hq] at h
    obtain ⟨b, n, ks, h⟩ := h
    have C := Lib.hid (spec_l3Tree.calls 3606 A c l b n ks false w hr hc h)
    clear h hq
    unfold IntsPost
    go_enter Try.func37, Try.ntmps37
    go_wp2_with fail
    refine C.out.mono ?_
    rintro e w1 ⟨v, rfl, hR, hb⟩
    obtain ⟨A1, c1, hv⟩ := Kd.R_slice hR
    subst hv
    have HB := Lib.hid hb
    clear hR hb
    go_wp2
    go_ret2
    exact ⟨_, rfl, Kd.R_nil _ _ _ _ _, below_step HB.out (ah_ (Below.refl _ _) _)⟩
  | some t =>
    rw [hq] at h
    simp only at h
    have C := Lib.hid (spec_l3Tree.calls 3606 A c l _ _ _ true w hr hc h)
    have HW := Lib.hid (tmof_wf hq)
    have HV := Lib.hid (tmof_vb hq)
    clear h hq
    unfold IntsPost
    go_enter Try.func37, Try.ntmps37
    go_wp2_with fail
    refine C.out.mono ?_
    rintro e w1 ⟨v, rfl, hR, hb⟩
    obtain ⟨A1, c1, hv⟩ := Kd.R_slice hR
    subst hv
    have HB := Lib.hid hb
    have HR := Lib.hid hR
    clear hR hb
    have C2 := Lib.hid (fun (W : World) (hb : Below w1.heap.size w1 W) => l3Free_calls t A1 c1 0 (fun _ => False) (.slice none 0 0) [] w1 W HW.out (vb_mono (by omega) t HV.out.1) (by omega) (by have := HV.out.2; omega) (by have := HV.out.2; simp; omega) hb (fun W' hW' => (Kd.R_reads' (Kd.R_kept (Kd.R_below HR.out hb) hW' (fun _ _ h => h))).2.2) (Kd.R_reads' HR.out).2.1 (Kd.R_nil _ _ _ _ _))
    go_wp2_with fail
    refine (C2.out _ (ah_ (Below.refl _ _) _)).mono ?_
    rintro e w2 ⟨v2, rfl, hR2, hb2, _⟩
    have HR2 := Lib.hid (Kd.R_lower (Kd.R_mono hR2 (fun _ _ => trivial)) HB.out.size)
    have HB2 := Lib.hid (below_step HB.out hb2)
    clear hR2 hb2
    go_wp2
    go_ret2
    exact ⟨_, rfl, HR2.out, HB2.out⟩
def lawFreeF (k : Nat) (l0 : List S68) : Option Bool :=
  (laws_szCellS.f l0 1048576).bind fun t => if t < 0 then some true else
    (laws_toCellS.f k l0).bind fun t1 =>
      (laws_eqIntS.f k (freeOf t1).1 (freeOfS t1).1).bind fun e => if e = true then (if (freeOf t1).2 = (freeOfS t1).2 then
        (laws_eqCellS.f k t1 t1).bind fun e2 => if e2 = true then
          (laws_markCellS.f k t1 1).bind fun m => if 0 ≤ m.1 then
            (laws_markIntS.f k (freeOf t1).1 1).bind fun mi => if 0 ≤ mi.1 then
              (laws_heldIntS.f k mi.2 1).bind fun h => if h = mi.1 then some true else none
            else none
          else none
        else none
      else none) else none
theorem if_some {p : Prop} [Decidable p] {α : Type} {a : Option α} {b : α} (h : (if p then a else none) = some b) : p ∧ a = some b := by
  by_cases hp : p
  · rw [if_pos hp] at h; exact ⟨hp, h⟩
  · rw [if_neg hp] at h; cases h
set_option maxRecDepth 100000 in
set_option maxHeartbeats 4000000 in
theorem lawFree_calls (k : Nat) (A0 : Option Addr) (c0 : Nat) (l0 : List S68) (w : World) (hr0 : Kd.C k68 w A0 l0.length l0) (hc0 : l0.length ≤ c0) (h : lawFreeF k l0 = some true) :
    Calls Try.prog 11 #[.slice A0 l0.length c0] w fun e w' => e = .returned (.bool true) ∧ Below w.heap.size w w' := by
  unfold lawFreeF at h
  obtain ⟨t, hsz, h⟩ := Option.bind_eq_some_iff.mp h
  have HR0 := Lib.hid hr0
  have HSZ := Lib.hid hsz
  clear hr0 hsz
  by_cases ht : t < 0
  · have hd : decide (t < 0) = true := decide_eq_true ht
    clear h
    go_enter Try.func11, Try.ntmps11
    go_wp2_with fail
    refine (laws_szCellS.calls A0 c0 l0 1048576 t w HR0.out hc0 HSZ.out).mono ?_
    rintro e w1 ⟨rfl, ⟨nd, rfl⟩⟩
    go_wp2
    go_ret
    exact ⟨rfl, af_ (Below.refl _ _) nd⟩
  · have hd : decide (t < 0) = false := decide_eq_false ht
    rw [if_neg ht] at h
    obtain ⟨t1, htc, h⟩ := Option.bind_eq_some_iff.mp h
    obtain ⟨e, heq, h⟩ := Option.bind_eq_some_iff.mp h
    replace h := if_some h
    obtain ⟨he_, h⟩ := h
    subst he_
    obtain ⟨hb2, h⟩ := if_some h
    obtain ⟨e2, heq2, h⟩ := Option.bind_eq_some_iff.mp h
    replace h := if_some h
    obtain ⟨he_, h⟩ := h
    subst he_
    obtain ⟨⟨m, ys⟩, hmk, h⟩ := Option.bind_eq_some_iff.mp h
    obtain ⟨hm, h⟩ := if_some h
    obtain ⟨⟨mi, zs⟩, hmi, h⟩ := Option.bind_eq_some_iff.mp h
    obtain ⟨hmi0, h⟩ := if_some h
    obtain ⟨hh, hhe, h⟩ := Option.bind_eq_some_iff.mp h
    obtain ⟨hhh, h⟩ := if_some h
    simp only at hm hmi0 hhe hhh
    subst hhh
    clear h
    have hmd : decide (m < 0) = false := decide_eq_false (by omega)
    have hmd2 : decide (hh < 0) = false := decide_eq_false (by omega)
    obtain ⟨g1, r2, hg⟩ : ∃ g r, freeOf t1 = (g, r) := ⟨_, _, rfl⟩
    obtain ⟨r1, r2', hs⟩ : ∃ g r, freeOfS t1 = (g, r) := ⟨_, _, rfl⟩
    rw [hg, hs] at hb2
    simp only at hb2
    subst hb2
    rw [hg, hs] at heq
    rw [hg] at hmi
    simp only at heq hmi
    have HTC := Lib.hid htc
    have HEQ := Lib.hid heq
    have HEQ2 := Lib.hid heq2
    have HMK := Lib.hid hmk
    have HMI := Lib.hid hmi
    have HHE := Lib.hid hhe
    have HG := Lib.hid hg
    have HS := Lib.hid hs
    clear htc heq heq2 hmk hmi hhe hg hs ht hm hmi0
    go_enter Try.func11, Try.ntmps11
    go_wp2_with fail
    refine (laws_szCellS.calls A0 c0 l0 1048576 t w HR0.out hc0 HSZ.out).mono ?_
    rintro e w1 ⟨rfl, ⟨nd, rfl⟩⟩
    have HB1 := Lib.hid (af_ (Below.refl w.heap.size w) nd)
    generalize hw1 : w.drewN nd = w1 at HB1
    clear hw1
    go_wp2_with fail
    refine (laws_toCellS.calls k A0 c0 l0 t1 w1 (Kd.C_below HR0.out HB1.out) hc0 HTC.out).mono ?_
    rintro e w2 ⟨v1, rfl, h1, b2⟩
    obtain ⟨A1, c1, hv1, hl1, _⟩ := Kd.R_reads h1
    subst hv1
    have HB2 := Lib.hid (below_step HB1.out b2)
    have HC1 := Lib.hid (Kd.R_reads' h1).2.2
    clear h1 b2
    go_wp2_with fail
    refine (specFreeIn_calls t1 A1 c1 w2 HC1.out hl1).mono ?_
    rw [HS.out]
    rintro e w3 ⟨vw, rfl, hn, b3⟩
    obtain ⟨Aw, cw, hvw⟩ := Kd.R_slice hn
    subst hvw
    have HB3 := Lib.hid (below_step HB2.out b3)
    have HW := Lib.hid (show Kd.R (Kd.int .i64) 3 w3 w2.heap.size (fun k => k < w3.heap.size) (.slice Aw r1.length cw) r1 from Kd.R_mono (Kd.R_bound hn) (fun k hk => hk.2.2.1))
    have hlw := (Kd.R_reads' hn).2.1
    clear hn b3 hl1
    go_wp2_with fail
    refine (laws_toCellS.calls k A0 c0 l0 t1 w3 (Kd.C_below HR0.out HB3.out) hc0 HTC.out).mono ?_
    rintro e w4 ⟨v0, rfl, h1, b4⟩
    obtain ⟨Ax, cx, hv0, hlx, _⟩ := Kd.R_reads h1
    subst hv0
    have HB4 := Lib.hid b4
    have HX := Lib.hid (show Kd.R k66 66 w4 w3.heap.size (fun k => w3.heap.size ≤ k ∧ k < w4.heap.size) (.slice Ax t1.length cx) t1 from Kd.R_mono (Kd.R_bound h1) (fun k hk => ⟨hk.2.1, hk.2.2.1⟩))
    clear h1 b4
    have hz34 : w3.heap.size ≤ w4.heap.size := HB4.out.size
    go_wp2_with fail
    refine (FreeIn_calls t1 Ax cx w4 (Kd.R_reads' HX.out).2.2 hlx).mono ?_
    rw [HG.out]
    rintro e w5 ⟨vg, rfl, hS, b5⟩
    obtain ⟨Ag, cg, hvg⟩ := Kd.R_slice hS
    subst hvg
    have HB5 := Lib.hid b5
    have HG5 := Lib.hid (show Kd.R (Kd.int .i64) 3 w5 w4.heap.size (fun k => w4.heap.size ≤ k) (.slice Ag g1.length cg) g1 from Kd.R_mono (Kd.R_bound hS) (fun k hk => hk.2.1))
    have hlg := (Kd.R_reads' hS).2.1
    clear hS b5
    have HW5 := Lib.hid (Kd.R_below (Kd.R_below HW.out HB4.out) HB5.out)
    go_wp2_with fail
    refine (laws_eqIntS.calls k Ag cg g1 Aw cw r1 true w5 (Kd.R_reads' HG5.out).2.2 hlg (Kd.R_reads' HW5.out).2.2 hlw HEQ.out).mono ?_
    rintro e w6 ⟨rfl, ⟨n6, rfl⟩⟩
    have HB6 := Lib.hid (af_ (Below.refl w5.heap.size w5) n6)
    generalize hw6 : w5.drewN n6 = w6 at HB6
    clear hw6
    have HT4 := Lib.hid (below_step HB3.out HB4.out)
    have HT5 := Lib.hid (below_step HT4.out HB5.out)
    have HT6 := Lib.hid (below_step HT5.out HB6.out)
    have H36 := Lib.hid (below_step (below_step HB4.out HB5.out) HB6.out)
    go_wp2_with fail
    refine (laws_toCellS.calls k A0 c0 l0 t1 w6 (Kd.C_below HR0.out HT6.out) hc0 HTC.out).mono ?_
    rintro e w7 ⟨v7, rfl, h1, b7⟩
    obtain ⟨A7, c7, hv7, hl7, _⟩ := Kd.R_reads h1
    subst hv7
    have HB7 := Lib.hid b7
    have HC7 := Lib.hid (Kd.R_reads' h1).2.2
    clear h1 b7
    have HX7 := Lib.hid (Kd.R_below (Kd.R_below (Kd.R_below HX.out HB5.out) HB6.out) HB7.out)
    go_wp2_with fail
    refine (laws_eqCellS.calls k Ax cx t1 A7 c7 t1 true w7 (Kd.R_reads' HX7.out).2.2 hlx HC7.out hl7 HEQ2.out).mono ?_
    rintro e w8 ⟨rfl, b8⟩
    have HB8 := Lib.hid b8
    clear b8
    have H37 := Lib.hid (below_step H36.out HB7.out)
    have H38 := Lib.hid (below_step H37.out HB8.out)
    have HX8 := Lib.hid (Kd.R_below HX7.out HB8.out)
    have HG8 := Lib.hid (Kd.R_below (Kd.R_below (Kd.R_below HG5.out HB6.out) HB7.out) HB8.out)
    have HW8 := Lib.hid (Kd.R_below (Kd.R_below (Kd.R_below HW5.out HB6.out) HB7.out) HB8.out)
    clear HX7
    go_wp2_with fail
    refine (laws_markCellS.calls k (fun k => w3.heap.size ≤ k ∧ k < w4.heap.size) (.slice Ax t1.length cx) t1 1 m ys w3 w8 H38.out HX8.out HMK.out).mono ?_
    rintro e w9 ⟨rfl, _, b9, k9⟩
    have HB9 := Lib.hid b9
    have HG9 := Lib.hid (Kd.R_kept HG8.out k9 (fun k h1 h2 => by omega))
    have HW9 := Lib.hid (Kd.R_kept HW8.out k9 (fun k h1 h2 => by omega))
    clear b9 k9
    go_wp2_with fail
    refine (laws_eqIntS.calls k Ag cg g1 Aw cw r1 true w9 (Kd.R_reads' HG9.out).2.2 hlg (Kd.R_reads' HW9.out).2.2 hlw HEQ.out).mono ?_
    rintro e w10 ⟨rfl, ⟨n10, rfl⟩⟩
    have HB10 := Lib.hid (af_ (Below.refl w9.heap.size w9) n10)
    generalize hw10 : w9.drewN n10 = w10 at HB10
    clear hw10
    have H310 := Lib.hid (below_step HB9.out HB10.out)
    have HG10 := Lib.hid (Kd.R_lower (Kd.R_below HG9.out HB10.out) hz34)
    have HW10 := Lib.hid (Kd.R_below HW9.out HB10.out)
    go_wp2_with fail
    refine (laws_markIntS.calls k (fun k => w4.heap.size ≤ k) (.slice Ag g1.length cg) g1 1 hh zs w3 w10 H310.out HG10.out HMI.out).mono ?_
    rintro e w11 ⟨rfl, hz, b11, k11⟩
    have HB11 := Lib.hid b11
    have HM := Lib.hid (Kd.R_reads' hz).2.2
    have hzl := (Kd.R_reads' hz).1
    have hzc := (Kd.R_reads' hz).2.1
    have HW11 := Lib.hid (Kd.R_kept HW10.out k11 (fun k h1 h2 => by omega))
    clear b11 k11 hz
    have C41 := Lib.hid (fun (W : World) (hb : Below w11.heap.size w11 W) => laws_heldIntS.calls k Ag cg zs 1 hh W (Kd.C_below HM.out hb) (by rw [← hzl]; exact hzc) HHE.out)
    rw [← hzl] at C41
    clear hzl
    go_wp2_with fail
    refine (C41.out w11 (Below.refl _ _)).mono ?_
    rintro e w12 ⟨rfl, ⟨nd2, rfl⟩⟩
    have HB12 := Lib.hid (af_ (Below.refl w11.heap.size w11) nd2)
    generalize hw12 : w11.drewN nd2 = w12 at HB12
    clear hw12
    have HT11 := Lib.hid (show Below w.heap.size w w11 from (HB3.out).trans (HB11.out.mono HB3.out.size))
    have HT12 := Lib.hid (below_step HT11.out HB12.out)
    go_wp2_with fail
    refine (laws_toCellS.calls k A0 c0 l0 t1 w12 (Kd.C_below HR0.out HT12.out) hc0 HTC.out).mono ?_
    rintro e w13 ⟨v13, rfl, h1, b13⟩
    obtain ⟨A13, c13, hv13, hl13, _⟩ := Kd.R_reads h1
    subst hv13
    have HB13 := Lib.hid b13
    have HC13 := Lib.hid (Kd.R_reads' h1).2.2
    clear h1 b13
    go_wp2_with fail
    refine (FreeIn_calls t1 A13 c13 w13 HC13.out hl13).mono ?_
    rw [HG.out]
    rintro e w14 ⟨vh, rfl, hS, b14⟩
    obtain ⟨Ah, ch, hvh⟩ := Kd.R_slice hS
    subst hvh
    have HB14 := Lib.hid b14
    have HH := Lib.hid (Kd.R_reads' hS).2.2
    have hlh := (Kd.R_reads' hS).2.1
    clear hS b14
    have HW14 := Lib.hid (Kd.R_below (Kd.R_below (Kd.R_below HW11.out HB12.out) HB13.out) HB14.out)
    go_wp2_with fail
    refine (laws_eqIntS.calls k Ah ch g1 Aw cw r1 true w14 HH.out hlh (Kd.R_reads' HW14.out).2.2 hlw HEQ.out).mono ?_
    rintro e w15 ⟨rfl, ⟨n15, rfl⟩⟩
    have HB15 := Lib.hid (af_ (Below.refl w14.heap.size w14) n15)
    generalize hw15 : w14.drewN n15 = w15 at HB15
    clear hw15
    have H1115 := Lib.hid (below_step (below_step (below_step HB12.out HB13.out) HB14.out) HB15.out)
    go_wp2_with fail
    refine (C41.out w15 H1115.out).mono ?_
    rintro e w16 ⟨rfl, ⟨nd3, rfl⟩⟩
    have HB16 := Lib.hid (af_ (Below.refl w15.heap.size w15) nd3)
    generalize hw16 : w15.drewN nd3 = w16 at HB16
    clear hw16
    go_wp2
    go_ret
    exact ⟨rfl, below_step (below_step HT11.out H1115.out) HB16.out⟩
end Go.Proofs.Ytgoiifpimpnlpaa.PAll

end

section
namespace Go.Proofs.Ytgoiifpimpnlpaa.PAll
open Go.RowKit Go.Proofs.YtgoiifpimpnlpaaW.PrintWords Go.Proofs.YtgoiifpimpnlpaaW.PrintLast Go.Proofs.YtgoiifpimpnlpaaW.PrintMore
set_option linter.unusedVariables false
set_option linter.unusedSimpArgs false
theorem eqIntS_loop (a : List Int) (hm : a.length ≤ 17592186044416) : ∀ (d k i : Nat), i + d = a.length → d < k → laws_eqIntS.l0 k a a (i : Int) = some true := by
  intro d
  induction d with
  | zero =>
    intro k i hi hk
    obtain ⟨k, rfl⟩ : ∃ m, k = m + 1 := ⟨k - 1, by omega⟩
    simp only [laws_eqIntS.l0]
    rw [if_neg (by omega)]
  | succ d ih =>
    intro k i hi hk
    obtain ⟨k, rfl⟩ : ∃ m, k = m + 1 := ⟨k - 1, by omega⟩
    simp only [laws_eqIntS.l0]
    rw [if_pos (by omega), if_pos (by omega), if_pos (by omega), if_pos trivial, wrap_id (by omega) (by omega)]
    have := ih k (i + 1) (by omega) (by omega)
    simpa using this
theorem eqIntS_self (a : List Int) (hm : a.length ≤ 17592186044416) (k : Nat) (hk : a.length < k) : laws_eqIntS.f k a a = some true := by
  unfold laws_eqIntS.f
  rw [if_pos rfl]
  exact eqIntS_loop a hm a.length k 0 (by omega) hk
theorem markInt_loop (n : Nat) (hn : n ≤ 17592186044416) : ∀ (d k i : Nat) (xs : List Int), xs.length = n → (∀ j, j < i → xs[j]? = some ((1 + j : Nat) : Int)) → i + d = n → d < k → ∃ ys, laws_markIntS.l0 k xs ((1 + i : Nat) : Int) (i : Int) = some (((1 + n : Nat) : Int), ys) ∧ ys.length = n ∧ ∀ j, j < n → ys[j]? = some ((1 + j : Nat) : Int) := by
  intro d
  induction d with
  | zero =>
    intro k i xs hx hj hi hk
    obtain ⟨k, rfl⟩ : ∃ m, k = m + 1 := ⟨k - 1, by omega⟩
    simp only [laws_markIntS.l0]
    rw [if_neg (by omega)]
    obtain rfl : i = n := by omega
    exact ⟨xs, rfl, hx, hj⟩
  | succ d ih =>
    intro k i xs hx hj hi hk
    obtain ⟨k, rfl⟩ : ∃ m, k = m + 1 := ⟨k - 1, by omega⟩
    simp only [laws_markIntS.l0]
    rw [if_pos (by omega), if_pos (by omega), wrap_id (x := ((1 + i : Nat) : Int) + 1) (by omega) (by omega), wrap_id (x := (i : Int) + 1) (by omega) (by omega)]
    have e1 : ((1 + i : Nat) : Int) + 1 = ((1 + (i + 1) : Nat) : Int) := by omega
    have e2 : (i : Int) + 1 = ((i + 1 : Nat) : Int) := by omega
    rw [e1, e2, Int.toNat_natCast]
    refine ih k (i + 1) _ (by simp [hx]) (fun j hj' => ?_) (by omega) (by omega)
    by_cases hji : j = i
    · subst hji
      rw [List.getElem?_set_self (by omega)]
    · rw [List.getElem?_set_ne (by omega)]
      exact hj j (by omega)
theorem heldInt_loop (n : Nat) (hn : n ≤ 17592186044416) (ys : List Int) (hy : ys.length = n) (hj : ∀ j, j < n → ys[j]? = some ((1 + j : Nat) : Int)) : ∀ (d k i : Nat), i + d = n → d < k → laws_heldIntS.l0 k ys ((1 + i : Nat) : Int) (i : Int) = some ((1 + n : Nat) : Int) := by
  intro d
  induction d with
  | zero =>
    intro k i hi hk
    obtain ⟨k, rfl⟩ : ∃ m, k = m + 1 := ⟨k - 1, by omega⟩
    simp only [laws_heldIntS.l0]
    rw [if_neg (by omega)]
    obtain rfl : i = n := by omega
    rfl
  | succ d ih =>
    intro k i hi hk
    obtain ⟨k, rfl⟩ : ∃ m, k = m + 1 := ⟨k - 1, by omega⟩
    have hr : rd ys (i : Int) = ((1 + i : Nat) : Int) := by simp only [rd, Int.toNat_natCast, List.getD_eq_getElem?_getD]; rw [hj i (by omega)]; rfl
    simp only [laws_heldIntS.l0]
    rw [if_pos (by omega), if_pos (by omega), hr, if_pos rfl, wrap_id (x := ((1 + i : Nat) : Int) + 1) (by omega) (by omega), wrap_id (x := (i : Int) + 1) (by omega) (by omega)]
    have e1 : ((1 + i : Nat) : Int) + 1 = ((1 + (i + 1) : Nat) : Int) := by omega
    have e2 : (i : Int) + 1 = ((i + 1 : Nat) : Int) := by omega
    rw [e1, e2]
    exact ih k (i + 1) (by omega) (by omega)
theorem markHeldI_eq (xs : List Int) (hn : xs.length ≤ 17592186044416) (k : Nat) (hk : xs.length < k) : ∃ ys, laws_markIntS.f k xs 1 = some (((1 + xs.length : Nat) : Int), ys) ∧ ∀ q, xs.length < q → laws_heldIntS.f q ys 1 = some ((1 + xs.length : Nat) : Int) := by
  unfold laws_markIntS.f laws_heldIntS.f
  obtain ⟨ys, h, hy, hj⟩ := markInt_loop xs.length hn xs.length k 0 xs rfl (fun j h => by omega) (by omega) hk
  exact ⟨ys, h, fun q hq => heldInt_loop xs.length hn ys hy hj xs.length q 0 (by omega) hq⟩
def Ris (l : List Int) : Prop := l.Pairwise (· < ·)
theorem ins_mem (l : List Int) (n x : Int) : x ∈ ins l n ↔ x ∈ l ∨ x = n := by
  induction l with
  | nil => simp [ins]
  | cons y ys ih =>
    unfold ins
    split
    · simp only [List.mem_cons, ih, or_assoc]
    · split
      · rename_i h; subst h; simp only [List.mem_cons]
        constructor
        · exact .inl
        · rintro (h | h)
          · exact h
          · exact .inl h
      · simp only [List.mem_cons]
        constructor
        · rintro (h | h)
          · exact .inr h
          · exact .inl h
        · rintro (h | h)
          · exact .inr h
          · exact .inl h
theorem ins_ris (l : List Int) (n : Int) (h : Ris l) : Ris (ins l n) := by
  induction l with
  | nil => simp [ins, Ris]
  | cons y ys ih =>
    unfold Ris at h ih ⊢
    rw [List.pairwise_cons] at h
    unfold ins
    split
    · rename_i hlt
      rw [List.pairwise_cons]
      refine ⟨fun a ha => ?_, ih h.2⟩
      rcases (ins_mem ys n a).1 ha with ha | ha
      · exact h.1 a ha
      · omega
    · split
      · rw [List.pairwise_cons]; exact h
      · rw [List.pairwise_cons, List.pairwise_cons]
        refine ⟨fun a ha => ?_, h⟩
        rcases List.mem_cons.1 ha with ha | ha
        · omega
        · have := h.1 a ha; omega
theorem insAll_ris (L : List Int) : ∀ (out : List Int), Ris out → Ris (L.foldl ins out) := by
  induction L with
  | nil => intro out h; exact h
  | cons x L ih => intro out h; exact ih _ (ins_ris out x h)
theorem insAll_mem (L : List Int) : ∀ (out : List Int) (x : Int), x ∈ L.foldl ins out ↔ x ∈ out ∨ x ∈ L := by
  induction L with
  | nil => intro out x; simp
  | cons y L ih => intro out x; rw [List.foldl_cons, ih, ins_mem, List.mem_cons, or_assoc]
theorem ris_ext : ∀ {a b : List Int}, Ris a → Ris b → (∀ x, x ∈ a ↔ x ∈ b) → a = b
  | [], [], _, _, _ => rfl
  | [], y :: b, _, _, h => absurd ((h y).2 (by simp)) (by simp)
  | x :: a, [], _, _, h => absurd ((h x).1 (by simp)) (by simp)
  | x :: a, y :: b, ha, hb, h => by
    unfold Ris at ha hb
    rw [List.pairwise_cons] at ha hb
    have hxy : x = y := by
      have h1 := (h x).1 (by simp)
      have h2 := (h y).2 (by simp)
      rcases List.mem_cons.1 h1 with e | h1
      · exact e
      · rcases List.mem_cons.1 h2 with e | h2
        · exact e.symm
        · have := hb.1 x h1; have := ha.1 y h2; omega
    subst hxy
    congr 1
    refine ris_ext ha.2 hb.2 (fun z => ?_)
    constructor
    · intro hz
      rcases List.mem_cons.1 ((h z).1 (by simp [hz])) with e | h1
      · have := ha.1 z hz; omega
      · exact h1
    · intro hz
      rcases List.mem_cons.1 ((h z).2 (by simp [hz])) with e | h1
      · have := hb.1 z hz; omega
      · exact h1
theorem compact_ris (zs : List Int) (hs : zs.Pairwise (· ≤ ·)) : ∀ m, m ≤ zs.length → Ris (Lib.compactUpTo zs.toArray m) ∧ (∀ x, x ∈ Lib.compactUpTo zs.toArray m ↔ ∃ j, j < m ∧ zs[j]? = some x) := by
  intro m
  induction m with
  | zero => intro _; simp [Lib.compactUpTo, Ris]
  | succ m ih =>
    intro hm
    obtain ⟨h1, h2⟩ := ih (by omega)
    have hlt : m < zs.length := by omega
    have hg : (zs.toArray)[m]! = zs[m] := by simp [hlt]
    have hgm : zs[m]? = some zs[m] := by simp [hlt]
    have hle : ∀ j x, j < m → zs[j]? = some x → x ≤ zs[m] := by
      intro j x hj hx
      have hjl : j < zs.length := by omega
      rw [List.getElem?_eq_getElem hjl] at hx
      obtain rfl := Option.some.inj hx
      exact List.pairwise_iff_getElem.1 hs j m hjl hlt hj
    rw [Lib.compactUpTo_succ, hg]
    by_cases hk : Lib.keeps zs.toArray m = true
    · rw [if_pos hk]
      constructor
      · unfold Ris at h1 ⊢
        rw [List.pairwise_append]
        refine ⟨h1, by simp, fun a ha b hb => ?_⟩
        rw [List.mem_singleton.1 hb]
        obtain ⟨j, hj, hja⟩ := (h2 a).1 ha
        simp only [Lib.keeps, decide_eq_true_eq] at hk
        rcases hk with h0 | hne
        · omega
        · have hm1 : m - 1 < zs.length := by omega
          have e1 : (zs.toArray)[m - 1]! = zs[m - 1] := by simp [hm1]
          rw [hg, e1] at hne
          have l1 := hle (m - 1) zs[m - 1] (by omega) (by simp [hm1])
          have l2 : a ≤ zs[m - 1] := by
            rcases Nat.lt_or_ge j (m - 1) with hj1 | hj1
            · have hjl : j < zs.length := by omega
              rw [List.getElem?_eq_getElem hjl] at hja
              obtain rfl := Option.some.inj hja
              exact List.pairwise_iff_getElem.1 hs j (m - 1) hjl hm1 hj1
            · obtain rfl : j = m - 1 := by omega
              rw [List.getElem?_eq_getElem hm1] at hja
              obtain rfl := Option.some.inj hja
              exact Int.le_refl _
          omega
      · intro x
        rw [List.mem_append, h2, List.mem_singleton]
        constructor
        · rintro (⟨j, hj, hx⟩ | rfl)
          · exact ⟨j, by omega, hx⟩
          · exact ⟨m, by omega, hgm⟩
        · rintro ⟨j, hj, hx⟩
          rcases Nat.lt_or_ge j m with hj1 | hj1
          · exact .inl ⟨j, hj1, hx⟩
          · obtain rfl : j = m := by omega
            rw [hgm] at hx
            exact .inr (Option.some.inj hx).symm
    · rw [if_neg hk, List.append_nil]
      refine ⟨h1, fun x => ?_⟩
      rw [h2]
      have hk' : ¬ (m = 0 ∨ (zs.toArray)[m]! ≠ (zs.toArray)[m - 1]!) := by simpa [Lib.keeps] using hk
      constructor
      · rintro ⟨j, hj, hx⟩; exact ⟨j, by omega, hx⟩
      · rintro ⟨j, hj, hx⟩
        rcases Nat.lt_or_ge j m with hj1 | hj1
        · exact ⟨j, hj1, hx⟩
        · obtain rfl : j = m := by omega
          have h0 : j ≠ 0 := fun e => hk' (.inl e)
          have he : (zs.toArray)[j]! = (zs.toArray)[j - 1]! := Classical.not_not.1 (fun e => hk' (.inr e))
          have hm1 : j - 1 < zs.length := by omega
          have e1 : (zs.toArray)[j - 1]! = zs[j - 1] := by simp [hm1]
          rw [hg, e1] at he
          rw [hgm, he] at hx
          exact ⟨j - 1, by omega, by rw [List.getElem?_eq_getElem hm1]; exact hx⟩
theorem sortCompact_eq (L : List Int) : Lib.compact (L.mergeSort fun x y => decide (x ≤ y)) = L.foldl ins [] := by
  have hs : (L.mergeSort fun x y => decide (x ≤ y)).Pairwise (· ≤ ·) := by
    have := List.pairwise_mergeSort (le := fun x y : Int => decide (x ≤ y)) (fun a b c h1 h2 => by simp at *; omega) (fun a b => by simp; omega) L
    exact this.imp (fun h => by simpa using h)
  obtain ⟨h1, h2⟩ := compact_ris _ hs _ (Nat.le_refl _)
  refine ris_ext h1 (insAll_ris L [] List.Pairwise.nil) (fun x => ?_)
  show x ∈ Lib.compactUpTo _ _ ↔ _
  rw [h2, insAll_mem]
  constructor
  · rintro ⟨j, _, hx⟩
    exact .inr (List.mem_mergeSort.1 (List.mem_of_getElem? hx))
  · rintro (h | h)
    · cases h
    · obtain ⟨j, hj, hx⟩ := List.mem_iff_getElem.1 (List.mem_mergeSort (le := fun x y : Int => decide (x ≤ y)) |>.2 h)
      exact ⟨j, hj, by rw [List.getElem?_eq_getElem hj, hx]⟩
theorem freeOf_eq (l : List S66) : freeOf l = freeOfS l := by
  unfold freeOf freeOfS freeS
  cases tmof l with
  | none => rfl
  | some t => simp only; rw [sortCompact_eq]
theorem freeOfS_len (l : List S66) : (freeOfS l).1.length ≤ 600 := by
  unfold freeOfS
  cases hq : tmof l with
  | none => simp
  | some t =>
    have h1 := insAll_len (freeT t 0) []
    have h2 := freeT_len t 0
    have h3 := (tmof_vb hq).2
    simp only [List.length_nil] at h1 ⊢
    omega
theorem FnExactFreeIn_pure (l0 : List S68) (g0 : l0.length ≤ 9223372036854775807 ∧ ∀ xl0_ ∈ l0, ((Lit.int .i64 xl0_.f0).wf = true ∧ (Lit.int .i64 xl0_.f1).wf = true)) : ∃ k, lawFreeF k l0 = some true := by
  refine ⟨1050004, ?_⟩
  unfold lawFreeF laws_szCellS.f
  by_cases h : wrap64 (1048576 - (l0.length : Int)) < 0
  · rw [if_pos h]; simp
  · have hl : l0.length ≤ 17592186044416 ∧ l0.length < 1050000 := by have := g0.1; unfold wrap64 at h; omega
    rw [if_neg h]
    simp only [Option.bind_some]
    rw [if_neg h]
    obtain ⟨hl, hk⟩ := hl
    have hn := freeOfS_len (l0.map cvM)
    obtain ⟨zs, hz⟩ := markFrom_eq (l0.map cvM) (by simpa using hl) 1 (by omega) 1050004 (by simp; omega)
    simp only [Int.cast_ofNat_Int] at hz
    obtain ⟨ys, hy, hh⟩ := markHeldI_eq (freeOfS (l0.map cvM)).1 (by omega) 1050004 (by omega)
    rw [toCellS_eq l0 hl _ (by omega)]
    simp only [Option.bind_some]
    rw [freeOf_eq, eqIntS_self _ (by omega) _ (by omega)]
    simp only [Option.bind_some, if_true]
    rw [eqCellS_self _ (by simpa using hl) _ (by simp; omega)]
    simp only [Option.bind_some, if_true]
    rw [hz]
    simp only [Option.bind_some]
    rw [if_pos (by omega), hy]
    simp only [Option.bind_some]
    rw [if_pos (by omega), hh _ (by omega)]
    simp
end Go.Proofs.Ytgoiifpimpnlpaa.PAll

end

section
namespace Go.Proofs.YtgoiifpimpnlpaaW.Opens
open Go.RowKit Go.Proofs.YtgoiifpimpnlpaaW.PrintWords Go.ChangeShapes Go.WideShapes Go.Deep Go.Joins
def Opn {α : Type} (P : Program) (t : TypeId) (d : Kd α) (G : α → Prop) : Prop :=
  ∀ {H : Type} (enc : TypeId × Value → H) (w : World) (base : Nat) (spare : Nat → Bool) (held : Bool) (fuel : Nat) (cs : List Value) (x : DataW H × List MemPlace),
    DataW.trod enc P w base spare held fuel t cs = some x → ∃ a, d.K w a cs ∧ G a
theorem opn_int {P : Program} {t : TypeId} {k : IntKind} (ht : P.underlying t = some (.int k)) : Opn P t (Kd.int k) (fun n => (Lit.int k n).wf = true) := by
  intro H enc w base spare held fuel cs x h
  obtain ⟨n, rfl, _, hw⟩ := DataW.trod_int ht h
  exact ⟨n, rfl, hw⟩
theorem list_of {α : Type} {p : Nat → α → Prop} : ∀ {n : Nat}, (∀ i, i < n → ∃ a, p i a) → ∃ xs : List α, xs.length = n ∧ ∀ i a, xs[i]? = some a → p i a := by
  intro n
  induction n with
  | zero => intro _; exact ⟨[], rfl, fun i a h => by simp at h⟩
  | succ n ih =>
    intro h
    obtain ⟨xs, hl, hx⟩ := ih (fun i hi => h i (by omega))
    obtain ⟨a, ha⟩ := h n (by omega)
    refine ⟨xs ++ [a], by simp [hl], fun i b hb => ?_⟩
    rcases Nat.lt_or_ge i xs.length with hi | hi
    · rw [List.getElem?_append_left hi] at hb; exact hx i b hb
    · rw [List.getElem?_append_right hi] at hb
      have : i - xs.length = 0 := by
        rcases Nat.eq_zero_or_pos (i - xs.length) with h0 | h0
        · exact h0
        · rw [List.getElem?_eq_none (by simp; omega)] at hb; cases hb
      rw [this] at hb
      simp at hb
      subst hb
      rw [show i = n by omega]
      exact ha
theorem opn_slice {α : Type} {P : Program} {t e : TypeId} {d : Kd α} {G : α → Prop} (ht : P.underlying t = some (.slice e)) (hc : P.cellsOf e = d.sz) (h : Opn P e d G) : Opn P t (Kd.slice e d) (fun xs => xs.length ≤ 9223372036854775807 ∧ ∀ x ∈ xs, G x) := by
  intro H enc w base spare held fuel cs x hx
  rcases DataW.trod_slice ht hx with ⟨rfl, _⟩ | ⟨a, len, cap, elems, rest, n, _, rfl, _, hb, hl, hm, hlen, hel, _, _⟩
  · exact ⟨[], ⟨none, 0, rfl, Nat.le_refl _, ⟨rfl, by simp, fun h0 => absurd h0 (by simp)⟩⟩, by simp, fun x hx => by cases hx⟩
  · obtain ⟨xs, hxl, hxs⟩ := list_of (n := len) (p := fun i a' => (∃ c, w.cells? base (a.add (i * P.cellsOf e)) (P.cellsOf e) = some c ∧ d.K w a' c) ∧ G a') (fun i hi => by
      have he := hel i hi
      rw [List.getElem?_eq_getElem (show i < elems.length by omega)] at he
      obtain ⟨c, h1, h2⟩ := Option.bind_eq_some_iff.1 he
      obtain ⟨a', hk, hg⟩ := h enc w base spare held n c _ h2
      exact ⟨a', ⟨c, h1, hk⟩, hg⟩)
    have hxm : xs.length ≤ 9223372036854775807 := by rw [hxl]; have := hm; simp only [maxLen] at this; omega
    refine ⟨xs, ⟨some a, cap, by rw [hxl], by omega, ⟨rfl, hxm, fun _ => ⟨a, rfl, fun j p hj => ?_⟩⟩⟩, hxm, fun x hx => ?_⟩
    · obtain ⟨⟨c, h1, hk⟩, _⟩ := hxs j p hj
      obtain ⟨h2, h3, h4⟩ := World.cells?_some h1
      refine ⟨c, d.K_len hk, hk, fun i u hu => ?_⟩
      have hi : i < P.cellsOf e := by rw [← h3]; exact (List.getElem?_eq_some_iff.1 hu).1
      have := h4 i hi
      rw [Go.Deep.add_add, hu, hc] at this
      exact this
    · obtain ⟨i, hi, rfl⟩ := List.getElem_of_mem hx
      exact (hxs i _ (List.getElem?_eq_getElem hi)).2
theorem opn_iso {α β : Type} {P : Program} {t : TypeId} {d : Kd α} {G : α → Prop} {f : β → α} (g : α → β) (hg : ∀ a, f (g a) = a) (h : Opn P t d G) : Opn P t (Kd.iso d f) (fun b => G (f b)) := by
  intro H enc w base spare held fuel cs x hx
  obtain ⟨a, hk, ha⟩ := h enc w base spare held fuel cs x hx
  exact ⟨g a, by show d.K w (f (g a)) cs; rw [hg]; exact hk, by show G (f (g a)); rw [hg]; exact ha⟩
theorem opn_struct2 {α β : Type} {P : Program} {t : TypeId} {f0 f1 : Field} {d0 : Kd α} {d1 : Kd β} {G0 : α → Prop} {G1 : β → Prop} (ht : P.underlying t = some (.struct #[f0, f1]))
    (hs : ((f0.offset, P.cellsOf f0.type), (f1.offset, P.cellsOf f1.type), P.cellsOf t) = ((0, d0.sz), (d0.sz, d1.sz), d0.sz + d1.sz)) (h0 : Opn P f0.type d0 G0) (h1 : Opn P f1.type d1 G1) :
    Opn P t (Kd.pair d0 d1) (fun p => G0 p.1 ∧ G1 p.2) := by
  intro H enc w base spare held fuel cs x hx
  obtain ⟨y0, y1, n, _, hl, hf0, hf1⟩ := trod_struct2 ht hx
  simp only [Prod.mk.injEq] at hs
  obtain ⟨⟨a0, b0⟩, ⟨a1, b1⟩, c⟩ := hs
  rw [a0, b0] at hf0
  rw [a1, b1] at hf1
  obtain ⟨u0, k0, g0⟩ := h0 enc w base spare held n _ _ hf0
  obtain ⟨u1, k1, g1⟩ := h1 enc w base spare held n _ _ hf1
  refine ⟨(u0, u1), ⟨_, _, ?_, k0, k1⟩, g0, g1⟩
  rw [List.drop_zero, List.take_of_length_le (l := cs.drop d0.sz) (by simp; omega), List.take_append_drop]
theorem slice_came {α : Type} {P : Program} {t e : TypeId} {d : Kd α} {G : List α → Prop} (h : Opn P t (Kd.slice e d) G) {H : Type} {enc : TypeId × Value → H} {w : World} {base : Nat} {spare : Nat → Bool} {held : Bool} {dd : DataW H} {ps : List MemPlace} {A : Option Addr} {n c : Nat}
    (hd : DataW.Trod enc P w base spare held t (.slice A n c) dd ps) : ∃ xs, n = xs.length ∧ Kd.C d w A xs.length xs ∧ xs.length ≤ c ∧ G xs := by
  obtain ⟨fuel, hf⟩ := hd
  obtain ⟨xs, ⟨A', c', he, hl, hr⟩, hg⟩ := h enc w base spare held fuel _ _ hf
  simp [Value.cells] at he
  obtain ⟨rfl, rfl, rfl⟩ := he
  exact ⟨xs, rfl, hr, hl, hg⟩
end Go.Proofs.YtgoiifpimpnlpaaW.Opens

end
