-- Made by pack.py of the texts that the law reaches.
import Derived.BigQuiet
import Derived.Deep.RegionHeld3
import Derived.Deep.RegionLaw
import Derived.Deep.RegionWith
import Derived.Test.YtgoiifpimpnlpaaV2
section
namespace Go.Proofs.Ytgoiifpimpnlpaa.PAll
open Go.RowKit Go.Proofs.YtgoiifpimpnlpaaW.PrintWords Go.Proofs.YtgoiifpimpnlpaaW.PrintLast Go.Proofs.YtgoiifpimpnlpaaW.PrintMore
set_option linter.unusedVariables false
set_option linter.unusedSimpArgs false
theorem binds_calls (k : Int) (i : Nat) (w : World) : Calls Try.prog 128 #[.int .i64 k, .int .i64 i] w fun e w' => e = .returned (.int .i64 (bindsI k i)) ∧ Below w.heap.size w w' := by
  by_cases h3 : k = 3
  · subst h3
    have e : bindsI 3 i = 1 := by simp [bindsI]
    rw [e]
    clear e
    go_enter Try.func128, Try.ntmps128
    go_wp2
    go_ret
    exact ⟨rfl, by repeat (first | exact Below.refl _ _ | apply ag_ | apply ah_)⟩
  have b3 : (k == 3) = false := by simp [h3]
  by_cases h7 : k = 7
  · subst h7
    by_cases h1 : i = 1
    · subst h1
      have e : bindsI 7 1 = 1 := by simp [bindsI]
      rw [e]
      clear e
      go_enter Try.func128, Try.ntmps128
      go_wp2
      go_ret
      exact ⟨rfl, by repeat (first | exact Below.refl _ _ | apply ag_ | apply ah_)⟩
    · have e : bindsI 7 i = 0 := by simp [bindsI, h1]
      have b1 : ((i : Int) == 1) = false := by simp; omega
      rw [e]
      clear e h1
      go_enter Try.func128, Try.ntmps128
      go_wp2
      go_ret
      exact ⟨rfl, by repeat (first | exact Below.refl _ _ | apply ag_ | apply ah_)⟩
  have b7 : (k == 7) = false := by simp [h7]
  have e : bindsI k i = 0 := by simp [bindsI, h3, h7]
  rw [e]
  clear e h3 h7
  go_enter Try.func128, Try.ntmps128
  go_wp2
  go_ret
  exact ⟨rfl, by repeat (first | exact Below.refl _ _ | apply ag_ | apply ah_)⟩
def PPost (S : Nat → Prop) (t : Tm) (w : World) (e : Ending) (w' : World) : Prop := ∃ r, e = .returned (ptr r) ∧ TAt S w' r t ∧ Below w.heap.size w w'
theorem PPost.lower {S : Nat → Prop} {t : Tm} {w w1 : World} (hb : Below w.heap.size w w1) {e : Ending} {w' : World} (h : PPost S t w1 e w') : PPost S t w e w' := by
  obtain ⟨r, he, ht, hb1⟩ := h
  exact ⟨r, he, ht, ar_ hb hb1⟩
def Clo2 (fn p q : Nat) (f : Int → Int → Tm) (w0 : World) (B D : Int) (T : Nat → Prop) : Prop := ∀ (n b : Int) (S : Nat → Prop) (g : Nat) (W : World), 0 ≤ n → n ≤ B → 0 ≤ b → b ≤ D → Below w0.heap.size w0 W → (∀ k, T k → S k) → (∀ k, W.heap.size ≤ k → S k) → TAt S W g (tvar n) →
  Calls Try.prog fn #[ptr g, .int .i64 b, ptr p, ptr q] W (PPost S (f n b) W)
def MidC (f : Int → Int → Tm) (k bnd : Int) (ks : List Tm) (b : Nat) (S : Nat → Prop) (w wr : World) (j : Nat) : Prop :=
  ∃ (gs : List Nat) (arr : Array Value), wr.heap[b]? = some (.cells arr 69 (0, 0)) ∧ arr.size = ks.length ∧ (∀ i p : Nat, gs[i]? = some p → arr[i]? = some (ptr p)) ∧ LAt (fun q => S q ∧ q ≠ b) wr gs (chgs f k 0 (ks.take j) bnd) ∧ Below w.heap.size w wr
theorem MidC_step {f : Int → Int → Tm} {k bnd : Int} {ks : List Tm} {b : Nat} {S : Nat → Prop} {w wr w2 : World} {j : Nat} {t : Tm} {gs : List Nat} {arr : Array Value} {g : Nat} (ht : ks[j]? = some t) (hblk : wr.heap[b]? = some (.cells arr 69 (0, 0))) (hsz : arr.size = ks.length) (harr : ∀ i p : Nat, gs[i]? = some p → arr[i]? = some (ptr p)) (hL : LAt (fun q => S q ∧ q ≠ b) wr gs (chgs f k 0 (ks.take j) bnd)) (hBw : Below w.heap.size w wr) (hwb : w.heap.size ≤ b) (hb2 : Below wr.heap.size wr w2) (hT : TAt (fun q => S q ∧ q ≠ b) w2 g (chg f t (bnd + bindsI k j))) :
    MidC f k bnd ks b S w (w2.setCell ⟨b, j, none⟩ (ptr g)) (j + 1) := by
  have hblt := blk_lt hblk
  have hgl := hL.length
  have hj : j < ks.length := by
    rcases Nat.lt_or_ge j ks.length with h | h
    · exact h
    · rw [List.getElem?_eq_none h] at ht; cases ht
  rw [chgs_len, List.length_take, Nat.min_eq_left (by omega)] at hgl
  have hset : ∀ q, (S q ∧ q ≠ b) → q < w2.heap.size → (w2.setCell ⟨b, j, none⟩ (ptr g)).heap[q]? = w2.heap[q]? := fun q h _ => Below.heap_setCell w2 ⟨b, j, none⟩ _ q (by simpa using h.2)
  refine ⟨gs ++ [g], arr.setIfInBounds j (ptr g), blk_set ((hb2.block b hblt).trans hblk) j _, by simpa using hsz, ?_, ?_, af_ (below_then hBw hBw.size hb2) hwb⟩
  · intro i p hp
    by_cases hi : i < gs.length
    · rw [List.getElem?_append_left hi] at hp
      rw [Array.getElem?_setIfInBounds_ne (by omega)]
      exact harr i p hp
    · rw [List.getElem?_append_right (by omega)] at hp
      have e : i - gs.length = 0 := by
        rcases Nat.eq_zero_or_pos (i - gs.length) with h | h
        · exact h
        · rw [List.getElem?_eq_none (by simp; omega)] at hp; cases hp
      rw [e] at hp
      simp at hp
      subst hp
      obtain rfl : i = j := by omega
      rw [Array.getElem?_setIfInBounds_self_of_lt (by omega)]
  · rw [chgs_take_succ f k bnd ks 0 j t ht, Nat.zero_add]
    exact LAt.snoc (LAt.step hset (fun _ h _ => h) (hL.below hb2)) (TAt.step hset (fun _ h _ => h) hT)
set_option maxRecDepth 100000 in
set_option maxHeartbeats 2000000 in
theorem change_calls (fn p q : Nat) (f : Int → Int → Tm) (w0 : World) (B D : Int) (hD : D ≤ 1000000000000) (hen : ∀ args W, (callFunc fn args).run Try.prog W = .ok (.enter fn args) W) (T : Nat → Prop) (hTT : ∀ k, T k → k < w0.heap.size) (hf : Clo2 fn p q f w0 B D T) (t : Tm) :
    ∀ (S : Nat → Prop) (g : Nat) (w : World) (bnd : Int), 0 ≤ bnd → bnd + t.cnt ≤ D → t.vb B → t.wf → Below w0.heap.size w0 w → (∀ k, T k → S k) → (∀ k, w.heap.size ≤ k → S k) → TAt S w g t →
    Calls Try.prog 102 #[ptr g, .int .i64 bnd, .func (.func fn) #[] #[ptr p, ptr q]] w (PPost S (chg f t bnd) w) := by
  have HF := Lib.hid hf
  clear hf
  induction t using Tm.ind with
  | h k n ks ih =>
  intro S g w bnd hb0 hbD hv hw hW hS0 hS1 hT
  rw [vb_mk] at hv
  rw [cnt_mk] at hbD
  rw [chg_mk]
  simp only [Tm.wf] at hw
  obtain ⟨hk, hws⟩ := hw
  obtain ⟨A, c, gs, hc, c0, c1, c2, c3, hrow, hl⟩ := hT.cells
  have HTT := Lib.hid hT
  have HS0 := Lib.hid hS0
  have HS1 := Lib.hid hS1
  clear hT hS0 hS1
  by_cases h1 : k = 1
  · rw [if_pos h1]
    have hks : ks = [] := by rw [h1] at hk; simp [arI] at hk; exact List.length_eq_zero_iff.1 (by omega)
    subst h1 hks
    have hv1 := hv.1 rfl
    obtain ⟨n0, nB⟩ := hv1
    have C := Lib.hid (HF.out n bnd S g w n0 nB hb0 (by omega) hW HS0.out HS1.out HTT.out)
    unfold ptr at C ⊢
    clear hv hk hws hrow hl ih HTT HF
    go_enter Try.func102, Try.ntmps102
    go_wp2_with ((with_reducible refine C.out.mono ?_); rintro e w' ⟨r, rfl, hr, hb⟩; have HR := Lib.hid hr; clear hr; unfold ptr)
    go_ret
    exact ⟨r, rfl, HR.out, hb⟩
  rw [if_neg h1]
  have b1 : (k == 1) = false := by simp [h1]
  have hv := hv.2
  clear h1
  rcases Nat.eq_zero_or_pos ks.length with h0 | hpos
  · obtain rfl := List.length_eq_zero_iff.1 h0
    simp only [chgs]
    unfold ptr
    have c2 : w.cell? ⟨g, 2, none⟩ = some (.slice A 0 c) := c2
    clear hk hws hrow hl ih HF hv h0
    go_enter Try.func102, Try.ntmps102
    go_wp2
    go_ret
    exact ⟨g, rfl, HTT.out, Below.refl _ _⟩
  ·
    have hk3 : ks.length ≤ 3 := by have := arI_bd k; omega
    have bl : ((ks.length : Int) == 0) = false := by rw [beq_eq_false_iff_ne]; omega
    have hmk : ∀ W, (Instr.makeSlice 78 (.int .i64 (ks.length : Int)) (.int .i64 (ks.length : Int))).run Try.prog W = .ok (.slice (some ⟨W.heap.size, 0, none⟩) ks.length ks.length) (W.alloc (.cells (madeCells #[.pointer none] ks.length) 69)) := run_make_row' 78 69 (.pointer none) 8 Try.underlying78 info69 rfl .i64 .i64 ks.length (by omega) (by omega)
    have k2 : ∀ o, (w.alloc o).cell? ⟨g, 2, none⟩ = some (.slice A ks.length c) := fun o => (World.cell?_alloc_lt _ _ _ (aa_ w _ c2)).trans c2
    have IH := Lib.hid ih
    have HWS := Lib.hid hws
    have HV := Lib.hid hv
    have HROW := Lib.hid hrow
    have HL := Lib.hid hl
    have HW := Lib.hid hW
    clear ih hws hv hrow hl hk hW
    unfold ptr
    go_enter Try.func102, Try.ntmps102
    go_wp2
    obtain ⟨b, hbb⟩ : ∃ b, b = w.heap.size := ⟨_, rfl⟩
    rw [← hbb]
    have hwb : w.heap.size ≤ b := by omega
    have hM : MidC f k bnd ks b S w (w.alloc (.cells (madeCells #[.pointer none] ks.length) 69)) 0 := ⟨[], madeCells #[.pointer none] ks.length, by rw [hbb]; exact blk_new w _, size_madeCells _ _, by simp, by simp [chgs, LAt], ai_ (Below.refl _ _) _⟩
    have HM := Lib.hid hM
    have HBB := Lib.hid hbb
    clear hM hbb hmk k2
    go_loopw [8, 9, 37] (fun v8 v9 v37 wr => ∃ j : Nat, j ≤ ks.length ∧ v37 = .int .i64 j ∧ MidC f k bnd ks b S w wr j) (fun _ _ v37 _ => ks.length - (intOf v37).toNat)
    case atStart => exact ⟨0, Nat.zero_le _, rfl, HM.out⟩
    case round =>
      obtain ⟨j, hj, rfl, gs2, arr, hblk, hsz, harr, hL2, hBw⟩ := hrel
      clear HM
      have hblt := blk_lt hblk
      have d0 : wr.cell? ⟨g, 0, none⟩ = some (.int .i64 k) := (hBw.cell (aa_ w _ c0)).trans c0
      have d1 : wr.cell? ⟨g, 1, none⟩ = some (.int .i64 n) := (hBw.cell (aa_ w _ c1)).trans c1
      by_cases hlt : j < ks.length
      · obtain ⟨t, ht⟩ : ∃ t, ks[j]? = some t := ⟨ks[j], by simp [hlt]⟩
        have hmem := List.mem_of_getElem? ht
        obtain ⟨qg, hqg, hTq⟩ := LAt.get HL.out ht
        obtain ⟨ad, rfl, hSa, hcell⟩ := HROW.out j qg hqg
        have hcell := (hBw.cell (aa_ w _ hcell)).trans hcell
        have hcnt := cnt_mem hmem
        have hbi := bindsI_bd k j
        have hTs : TAt (fun x => S x ∧ x ≠ b) wr qg t := TAt.step (fun x _ hx => hBw.block x hx) (fun x hx hlt => ⟨hx, by omega⟩) hTq
        have C := Lib.hid (fun (W : World) (hb2 : Below wr.heap.size wr W) => IH.out t hmem (fun x => S x ∧ x ≠ b) qg W (bnd + bindsI k j) (by omega) (by omega) (vbs_get HV.out t hmem) (wfs_get HWS.out t hmem) (ar_ HW.out (ar_ hBw hb2)) (fun x hx => ⟨HS0.out x hx, by have := HW.out.size; have := hTT x hx; omega⟩) (fun x hx => ⟨HS1.out x (by have := hBw.size; have := hb2.size; omega), by have := hb2.size; omega⟩) (hTs.below hb2))
        have HX := Lib.hid ht
        have HBLK := Lib.hid hblk
        have HSZ := Lib.hid hsz
        have HARR := Lib.hid harr
        have HL2 := Lib.hid hL2
        obtain ⟨old, hold⟩ : ∃ old, arr[j]? = some old := ⟨arr[j]'(by have := HSZ.out; omega), by have := HSZ.out; simp⟩
        have HOLD := Lib.hid hold
        have HBW := Lib.hid hBw
        unfold ptr at hcell C
        clear ht hblk hsz harr hL2 hold hTs hTq hqg hSa hmem hBw
        go_wp2_with fail
        refine (binds_calls k j _).mono ?_
        rintro e w1 ⟨rfl, hb1⟩
        have HB1 := Lib.hid hb1
        clear hb1
        go_wp2_with fail
        refine (C.out w1 HB1.out).mono ?_
        rintro e w2 ⟨r, rfl, hr, hb2⟩
        have HR := Lib.hid hr
        have HB2 := Lib.hid (ar_ HB1.out hb2)
        have hk2 : w2.cell? ⟨b, j, none⟩ = some old := (am_ ((HB2.out.block b hblt).trans HBLK.out) j).trans HOLD.out
        have hf2 : w2.frozen? ⟨b, j, none⟩ = false := al_ ((HB2.out.block b hblt).trans HBLK.out) j
        clear hr hb2
        unfold ptr
        go_wp2
        go_roundw
        case rel => exact ⟨j + 1, by omega, by go_num, MidC_step HX.out HBLK.out HSZ.out HARR.out HL2.out HBW.out hwb HB2.out HR.out⟩
        case measure => simp [intOf]; omega
      · obtain rfl : j = ks.length := by omega
        rw [List.take_length] at hL2
        have hrow2 : PtrRow S wr (some ⟨b, 0, none⟩) gs2 := fun i x hx => ⟨⟨b, 0, none⟩, rfl, HS1.out _ hwb, by rw [add_plain]; exact (am_ hblk i).trans (harr i x hx)⟩
        have hL3 : LAt S wr gs2 (chgs f k 0 ks bnd) := LAt.step (fun _ _ _ => rfl) (fun x hx _ => hx.1) hL2
        have hlen := chgs_len f k bnd ks 0
        have N := Lib.hid (fun (W : World) (hb2 : Below wr.heap.size wr W) => newTerm_calls S k n (chgs f k 0 ks bnd) (some ⟨b, 0, none⟩) ks.length gs2 W (by omega) (by omega) (hrow2.below hb2) (hL3.below hb2) (fun x hx => HS1.out x (by have := hBw.size; have := hb2.size; omega)))
        rw [hlen] at N
        have HBW := Lib.hid hBw
        clear hL2 hL3 hrow2 harr hblk hsz hlen hBw
        go_wp2
        go_region_with (go_at_call 93; (with_reducible refine (N.out _ (by repeat (first | exact Below.refl _ _ | apply ag_ | apply ah_))).mono ?_); rintro e w3 ⟨r, rfl, hg, hT, hb3⟩; have HR := Lib.hid hT; have HB3 := Lib.hid (ar_ HBW.out (ar_ (show Below wr.heap.size wr _ from by repeat (first | exact Below.refl _ _ | apply ag_ | apply ah_)) hb3)); clear hT hb3 hg; unfold ptr)
        all_goals go_wp2
        all_goals go_ret
        all_goals exact ⟨r, rfl, HR.out, HB3.out⟩
end Go.Proofs.Ytgoiifpimpnlpaa.PAll

end

section
namespace Go.Proofs.Ytgoiifpimpnlpaa.PAll
open Go.RowKit Go.Proofs.YtgoiifpimpnlpaaW.PrintWords Go.Proofs.YtgoiifpimpnlpaaW.PrintLast Go.Proofs.YtgoiifpimpnlpaaW.PrintMore
set_option linter.unusedVariables false
set_option linter.unusedSimpArgs false
theorem newLeaf_calls (S : Nat → Prop) (k n : Int) (w : World) (hS : ∀ k, w.heap.size ≤ k → S k) : Calls Try.prog 93 #[.int .i64 k, .int .i64 n, .slice none 0 0] w (PPost S (.mk k n []) w) := by
  refine (newTerm_calls S k n [] none 0 [] w (by simp) (by simp) (fun i p h => by simp at h) (by simp [LAt]) hS).mono ?_
  rintro e w' ⟨g, rfl, _, hT, hb⟩
  exact ⟨g, rfl, hT, hb⟩
set_option maxRecDepth 100000 in
set_option maxHeartbeats 1000000 in
theorem clo129 (p q : Nat) (by_ fr B D : Int) (w0 : World) (hp : w0.heap[p]? = some (.cells #[.int .i64 fr] 3 (0, 0))) (hq : w0.heap[q]? = some (.cells #[.int .i64 by_] 3 (0, 0))) (h0 : 0 ≤ by_) (h1 : by_ ≤ 1000000000000) (hB : B ≤ 1000000000000) (hD : D ≤ 1000000000000) : Clo2 129 p q (shF by_ fr) w0 B D (fun _ => False) := by
  intro n b S g W n0 nB b0 bD hW hS0 hS1 hT
  have HT := Lib.hid hT
  unfold tvar at hT
  obtain ⟨A, c, gs, hc, c0, c1, c2, c3, hrow, hl⟩ := hT.cells
  have cp : W.cell? ⟨p, 0, none⟩ = some (.int .i64 fr) := (am_ ((hW.block p (blk_lt hp)).trans hp) 0).trans rfl
  have cq : W.cell? ⟨q, 0, none⟩ = some (.int .i64 by_) := (am_ ((hW.block q (blk_lt hq)).trans hq) 0).trans rfl
  unfold shF
  unfold ptr
  clear hT hrow hl hp hq hW
  by_cases hlt : n - b < fr
  · rw [if_pos hlt]
    have d1 : decide (n - b < fr) = true := aq_ hlt
    clear hlt hS1
    go_enter Try.func129, Try.ntmps129
    go_wp2
    go_quiet (fail)
    all_goals go_wp2
    all_goals go_ret
    all_goals exact ⟨g, rfl, by first | exact HT.out | exact HT.out.below (by repeat (first | exact Below.refl _ _ | apply ag_ | apply ah_)), by repeat (first | exact Below.refl _ _ | apply ag_ | apply ah_)⟩
  · rw [if_neg hlt]
    have d1 : decide (n - b < fr) = false := decide_eq_false hlt
    have N := Lib.hid (fun (W' : World) (hb2 : Below W.heap.size W W') => newLeaf_calls S 1 (n + by_) W' (fun x hx => hS1 x (by have := hb2.size; omega)))
    have hwr : IntKind.i64.wrap (n + by_) = n + by_ := by rw [IntKind.wrap_i64]; omega
    clear hlt hS1
    go_enter Try.func129, Try.ntmps129
    go_wp2
    go_quiet (fail)
    all_goals go_wp2
    all_goals go_region_with (go_at_call 93; (try rw [hwr]); (with_reducible refine (N.out _ (by repeat (first | exact Below.refl _ _ | apply ag_ | apply ah_))).mono ?_); rintro e w3 hpost; obtain ⟨r, rfl, hr, hb3⟩ := PPost.lower (show Below W.heap.size W _ from by repeat (first | exact Below.refl _ _ | apply ag_ | apply ah_)) hpost; have HR := Lib.hid hr; have HB3 := Lib.hid hb3; clear hpost hr hb3; unfold ptr)
    all_goals go_wp2
    all_goals go_ret
    all_goals exact ⟨r, rfl, HR.out, HB3.out⟩
theorem enters129 : ∀ args W, (callFunc 129 args).run Try.prog W = .ok (.enter 129 args) W := fun args W => enters_ (P := Try.prog) (f := 129) Try.func129 (by kernel_rfl) rfl args W
theorem enters103 : ∀ args W, (callFunc 103 args).run Try.prog W = .ok (.enter 103 args) W := fun args W => enters_ (P := Try.prog) (f := 103) Try.func103 (by kernel_rfl) rfl args W
set_option maxRecDepth 100000 in
set_option maxHeartbeats 1000000 in
theorem shift_calls (S : Nat → Prop) (B by_ : Int) (t : Tm) (g : Nat) (w : World) (h0 : 0 ≤ by_) (h1 : by_ ≤ 1000000000000) (hB : B ≤ 1000000000000) (hD : t.cnt ≤ 1000000000000) (hv : t.vb B) (hw : t.wf) (hS : ∀ k, w.heap.size ≤ k → S k) (hT : TAt S w g t) :
    Calls Try.prog 104 #[ptr g, .int .i64 by_, .int .i64 0] w (PPost S (tshift by_ 0 t) w) := by
  unfold tshift
  have HT := Lib.hid hT
  clear hT
  unfold ptr
  by_cases hz : by_ = 0
  · rw [if_pos hz]
    subst hz
    go_enter Try.func104, Try.ntmps104
    go_wp2
    go_ret
    exact ⟨g, rfl, HT.out.below (by repeat (first | exact Below.refl _ _ | apply ag_ | apply ah_ | apply ai_)), by repeat (first | exact Below.refl _ _ | apply ag_ | apply ah_ | apply ai_)⟩
  · rw [if_neg hz]
    have bz : (by_ == 0) = false := by rw [beq_eq_false_iff_ne]; exact hz
    have C := Lib.hid (change_calls 129 (w.heap.size + 1) w.heap.size (shF by_ 0) ((w.alloc (.cells #[.int .i64 by_] 3)).alloc (.cells #[.int .i64 0] 3)) B t.cnt (by omega) enters129 (fun _ => False) (fun _ h => h.elim)
      (clo129 _ _ _ _ _ _ _ (by simpa using blk_new (w.alloc (.cells #[.int .i64 by_] 3)) (.cells #[.int .i64 0] 3)) (ad_ (blk_new w _) _) h0 h1 hB (by omega)) t S g ((w.alloc (.cells #[.int .i64 by_] 3)).alloc (.cells #[.int .i64 0] 3)) 0 (by omega) (by omega) hv hw (Below.refl _ _) (fun _ h => h.elim) (fun k hk => hS k (by simp at hk; omega)) (HT.out.below (by repeat (first | exact Below.refl _ _ | apply ai_))))
    clear hz hS hv hw
    unfold ptr at C
    go_enter Try.func104, Try.ntmps104
    go_wp2_with (go_at_call 102; (with_reducible refine C.out.mono ?_); rintro e w3 hpost; obtain ⟨r, rfl, hr, hb3⟩ := PPost.lower (show Below w.heap.size w _ from by repeat (first | exact Below.refl _ _ | apply ai_)) hpost; have HR := Lib.hid hr; have HB3 := Lib.hid hb3; clear hpost hr hb3; unfold ptr)
    go_ret
    exact ⟨r, rfl, HR.out, HB3.out⟩
set_option maxRecDepth 100000 in
set_option maxHeartbeats 1000000 in
theorem clo103 (p q : Nat) (k B D : Int) (s : Tm) (gs : Nat) (T : Nat → Prop) (w0 : World) (hp : w0.heap[p]? = some (.cells #[.int .i64 k] 3 (0, 0))) (hq : w0.heap[q]? = some (.cells #[ptr gs] 69 (0, 0))) (hs : TAt T w0 gs s) (hB : B ≤ 1000000000000) (hD : D ≤ 1000000000000) (hC : s.cnt ≤ 1000000000000) (hsv : s.vb B) (hsw : s.wf) : Clo2 103 p q (sbF k s) w0 B D T := by
  intro n b S g W n0 nB b0 bD hW hS0 hS1 hT
  have HT := Lib.hid hT
  unfold tvar at hT
  obtain ⟨A, c, gs', hc, c0, c1, c2, c3, hrow, hl⟩ := hT.cells
  have cp : W.cell? ⟨p, 0, none⟩ = some (.int .i64 k) := (am_ ((hW.block p (blk_lt hp)).trans hp) 0).trans rfl
  have cq : W.cell? ⟨q, 0, none⟩ = some (.pointer (some ⟨gs, 0, none⟩)) := (am_ ((hW.block q (blk_lt hq)).trans hq) 0).trans rfl
  have hsW : TAt S W gs s := TAt.step (fun x _ hx => hW.block x hx) (fun x hx _ => hS0 x hx) hs
  have C := Lib.hid (fun (W' : World) (hb2 : Below W.heap.size W W') => shift_calls S B b s gs W' b0 (by omega) hB hC hsv hsw (fun x hx => hS1 x (by have := hb2.size; omega)) (hsW.below hb2))
  have N := Lib.hid (fun (W' : World) (hb2 : Below W.heap.size W W') => newLeaf_calls S 1 (n - 1) W' (fun x hx => hS1 x (by have := hb2.size; omega)))
  unfold sbF
  unfold ptr at C ⊢
  clear hT hrow hl hp hq hW hs hsW hS0 hS1 hsv hsw
  by_cases he : n - b = k
  · rw [if_pos he]
    have d1 : (n - b == k) = true := by rw [beq_iff_eq]; exact he
    clear he
    go_enter Try.func103, Try.ntmps103
    go_wp2
    go_quiet (fail)
    all_goals go_wp2_with (go_at_call 104; (with_reducible refine (C.out _ (by repeat (first | exact Below.refl _ _ | apply ag_ | apply ah_))).mono ?_); rintro e w3 hpost; obtain ⟨r, rfl, hr, hb3⟩ := PPost.lower (show Below W.heap.size W _ from by repeat (first | exact Below.refl _ _ | apply ag_ | apply ah_)) hpost; have HR := Lib.hid hr; have HB3 := Lib.hid hb3; clear hpost hr hb3; unfold ptr)
    all_goals go_ret
    all_goals exact ⟨r, rfl, HR.out, HB3.out⟩
  · rw [if_neg he]
    have d1 : (n - b == k) = false := by rw [beq_eq_false_iff_ne]; exact he
    clear he
    by_cases hg : n - b > k
    · rw [if_pos hg]
      have d2 : decide (k < n - b) = true := aq_ hg
      clear hg
      go_enter Try.func103, Try.ntmps103
      go_wp2
      go_quiet (fail)
      all_goals go_wp2
      all_goals go_quiet (fail)
      all_goals go_wp2_with (go_at_call 93; (with_reducible refine (N.out _ (by repeat (first | exact Below.refl _ _ | apply ag_ | apply ah_))).mono ?_); rintro e w3 hpost; obtain ⟨r, rfl, hr, hb3⟩ := PPost.lower (show Below W.heap.size W _ from by repeat (first | exact Below.refl _ _ | apply ag_ | apply ah_)) hpost; have HR := Lib.hid hr; have HB3 := Lib.hid hb3; clear hpost hr hb3; unfold ptr)
      all_goals go_ret
      all_goals exact ⟨r, rfl, HR.out, HB3.out⟩
    · rw [if_neg hg]
      have d2 : decide (k < n - b) = false := decide_eq_false hg
      clear hg
      go_enter Try.func103, Try.ntmps103
      go_wp2
      go_quiet (fail)
      all_goals go_wp2
      all_goals go_quiet (fail)
      all_goals go_wp2
      all_goals go_ret
      all_goals exact ⟨g, rfl, by first | exact HT.out | exact HT.out.below (by repeat (first | exact Below.refl _ _ | apply ag_ | apply ah_)), by repeat (first | exact Below.refl _ _ | apply ag_ | apply ah_)⟩
set_option maxRecDepth 100000 in
set_option maxHeartbeats 1000000 in
theorem subst_calls (S : Nat → Prop) (B k : Int) (t s : Tm) (g gs : Nat) (w : World) (hk : -1 ≤ k) (hk1 : k ≤ 1000) (hB : B ≤ 1000000000000) (hD : t.cnt ≤ 1000000000000) (hv : t.vb B) (hw : t.wf) (hC : s.cnt ≤ 1000000000000) (hsv : s.vb B) (hsw : s.wf) (hS : ∀ k, w.heap.size ≤ k → S k) (hT : TAt S w g t) (hs : TAt S w gs s) :
    Calls Try.prog 62 #[ptr g, .int .i64 k, ptr gs] w (PPost S (tsubst k s t) w) := by
  unfold tsubst
  have hs2 : TAt (fun x => S x ∧ x < w.heap.size) ((w.alloc (.cells #[.int .i64 k] 3)).alloc (.cells #[ptr gs] 69)) gs s := TAt.step (fun x _ hx => (show Below w.heap.size w ((w.alloc (.cells #[.int .i64 k] 3)).alloc (.cells #[ptr gs] 69)) from by repeat (first | exact Below.refl _ _ | apply ai_)).block x hx) (fun x h hx => ⟨h, hx⟩) hs
  have C := Lib.hid (change_calls 103 w.heap.size (w.heap.size + 1) (sbF k s) ((w.alloc (.cells #[.int .i64 k] 3)).alloc (.cells #[ptr gs] 69)) B t.cnt (by omega) enters103 (fun x => S x ∧ x < w.heap.size) (fun x h => by simp; omega)
      (clo103 _ _ _ _ _ _ gs _ _ (ad_ (blk_new w _) _) (by simpa using blk_new (w.alloc (.cells #[.int .i64 k] 3)) (.cells #[ptr gs] 69)) hs2 hB (by omega) hC hsv hsw) t S g ((w.alloc (.cells #[.int .i64 k] 3)).alloc (.cells #[ptr gs] 69)) 0 (by omega) (by omega) hv hw (Below.refl _ _) (fun x h => h.1) (fun k hk => hS k (by simp at hk; omega)) (hT.below (by repeat (first | exact Below.refl _ _ | apply ai_))))
  clear hs2 hs hT hS hv hw hsv hsw
  unfold ptr at C ⊢
  go_enter Try.func62, Try.ntmps62
  go_wp2_with (go_at_call 102; (with_reducible refine C.out.mono ?_); rintro e w3 hpost; obtain ⟨r, rfl, hr, hb3⟩ := PPost.lower (show Below w.heap.size w _ from by repeat (first | exact Below.refl _ _ | apply ai_)) hpost; have HR := Lib.hid hr; have HB3 := Lib.hid hb3; clear hpost hr hb3; unfold ptr)
  go_ret
  exact ⟨r, rfl, HR.out, HB3.out⟩
end Go.Proofs.Ytgoiifpimpnlpaa.PAll

end

section
namespace Go.Proofs.Ytgoiifpimpnlpaa.PAll
open Go.RowKit Go.Proofs.YtgoiifpimpnlpaaW.PrintWords Go.Proofs.YtgoiifpimpnlpaaW.PrintLast Go.Proofs.YtgoiifpimpnlpaaW.PrintMore
set_option linter.unusedVariables false
set_option linter.unusedSimpArgs false
theorem TAt.keepB {B : Nat} {w w1 : World} {t : Tm} {g : Nat} (h : TAt (fun x => x < B) w g t) (hb : Below B w w1) : TAt (fun x => x < B) w1 g t := TAt.step (fun x hx _ => hb.block x hx) (fun _ h _ => h) h
theorem LAt.keepB {B : Nat} {w w1 : World} {ts : List Tm} {gs : List Nat} (h : LAt (fun x => x < B) w gs ts) (hb : Below B w w1) : LAt (fun x => x < B) w1 gs ts := LAt.step (fun x hx _ => hb.block x hx) (fun _ h _ => h) h
theorem TAt.belowB {S : Nat → Prop} {w : World} {t : Tm} {g : Nat} (h : TAt S w g t) : TAt (fun x => x < w.heap.size) w g t := TAt.step (fun _ _ _ => rfl) (fun _ _ h => h) h
set_option maxRecDepth 100000 in
set_option maxHeartbeats 2000000 in
theorem cells_calls (B : Nat) (t : Tm) : ∀ (g : Nat) (u : Value) (l : List S66) (w : World), t.wf → TAt (fun x => x < B) w g t → B ≤ w.heap.size → Kd.R k66 66 w B (fun _ => True) u l → (l.length + t.cnt) * 16 ≤ 140737488355328 →
    Calls Try.prog 105 #[ptr g, u] w fun e w' => ∃ v, e = .returned v ∧ Kd.R k66 66 w' B (fun _ => True) v (l ++ tcells t) ∧ Below B w w' := by
  induction t using Tm.ind with
  | h k n ks ih =>
  intro g u l w hw hT hB hu hl
  rw [cnt_mk] at hl
  simp only [Tm.wf] at hw
  obtain ⟨hk, hws⟩ := hw
  have hk3 : ks.length ≤ 3 := by have := arI_bd k; omega
  have hTT := hT
  simp only [TAt] at hTT
  obtain ⟨_, _, _, hlt, _⟩ := hTT
  obtain ⟨A, c, gs, hc, c0, c1, c2, c3, hrow, hl2⟩ := hT.cells
  have HU := Lib.hid hu
  have HL := Lib.hid hl
  have HL0 : Hid ((l.length + 1) * 16 ≤ 140737488355328) := Lib.hid (by omega)
  have HK := Lib.hid hl2
  have HROW := Lib.hid hrow
  have IH := Lib.hid ih
  have HWS := Lib.hid hws
  clear hu hl hl2 hrow ih hws hk hT
  unfold ptr
  go_enter Try.func105, Try.ntmps105
  go_wp2
  go_region_law (refine Kd.R_append_step k66 (w0 := w) (W := w.drew) B (by first | rfl | simp) (.tmp 7) (.tmp 17) 25 66 (.agg #[(.int .i64 0), (.int .i64 0)]) 16 (by rfl) Try.underlying25 info66' rfl (by decide) (by omega) u l (⟨k, n⟩ : S66) [.int .i64 k, .int .i64 n] (fun _ => True) (fun _ => False) (by simp [Act.eval, Act.put]) (by simp [Act.eval, Act.put]) (k66_mkM _ _ _ _) (fun _ h => h.elim) (fun _ _ => trivial) (ap_ HU.out) (by repeat (first | exact Below.refl _ _ | apply ah_)) hB HL0.out ?_; intro v1 w1 hu1 hb1 _ _; have c21 : w1.cell? ⟨g, 2, none⟩ = some (.slice A ks.length c) := (hb1.cell (p := ⟨g, 2, none⟩) hlt).trans c2; have HU1 := Lib.hid hu1; have HB1 := Lib.hid hb1; clear hu1 hb1)
  all_goals go_wp2
  all_goals
    have hs1 : B ≤ w1.heap.size := Nat.le_trans hB HB1.out.size
    go_loopw [1, 6, 24] (fun v1 v6 v24 wr => ∃ i : Nat, i ≤ ks.length ∧ v24 = .int .i64 i ∧ Kd.R k66 66 wr B (fun _ => True) v1 ((l ++ [⟨k, n⟩]) ++ lcells (ks.take i)) ∧ Below B w wr) (fun _ _ v24 _ => ks.length - (intOf v24).toNat)
    case atStart => exact ⟨0, Nat.zero_le _, rfl, by simpa [lcells] using HU1.out, HB1.out⟩
    case round =>
      obtain ⟨i, hi, rfl, hR, hBw⟩ := hrel
      have HR := Lib.hid hR
      have HBW := Lib.hid hBw
      clear hR hBw
      by_cases hlt2 : i < ks.length
      · obtain ⟨t, ht⟩ : ∃ t, ks[i]? = some t := ⟨ks[i], by simp [hlt2]⟩
        have hmem := List.mem_of_getElem? ht
        obtain ⟨qg, hqg, hTq⟩ := LAt.get HK.out ht
        obtain ⟨ad, rfl, hSa, hcell⟩ := HROW.out i qg hqg
        have eb : (ad.add i).block = ad.block := by unfold Addr.add; split <;> simp_all
        have hcell := (HBW.out.cell (p := ad.add i) (by rw [eb]; exact hSa)).trans hcell
        have hcnt : cnts (ks.take i) + t.cnt ≤ cnts ks := by
          have e := lcells_len (ks.take (i + 1))
          have e2 : lcells ks = lcells (ks.take (i + 1)) ++ lcells (ks.drop (i + 1)) := by rw [← lcells_append, List.take_append_drop]
          have e3 := congrArg List.length e2
          rw [List.length_append, lcells_len, lcells_len] at e3
          have e4 : cnts (ks.take (i + 1)) = cnts (ks.take i) + t.cnt := by
            rw [← lcells_len, List.take_add_one, ht, lcells_append, List.length_append, lcells_len]
            simp [lcells, tcells_len]
          omega
        have hsz : B ≤ wr.heap.size := Nat.le_trans hB HBW.out.size
        have C := Lib.hid (IH.out t hmem qg _ _ wr (wfs_get HWS.out t hmem) (hTq.keepB HBW.out) hsz HR.out (by have := HL.out; simp only [List.length_append, lcells_len, List.length_cons, List.length_nil]; omega))
        have HX := Lib.hid ht
        unfold ptr at hcell C
        clear ht hTq hqg hmem hcnt
        go_wp2_with fail
        refine C.out.mono ?_
        rintro e w2 ⟨v2, rfl, hR2, hb2⟩
        have HR2 := Lib.hid hR2
        have HB2 := Lib.hid (HBW.out.trans hb2)
        clear hR2 hb2
        go_wp2
        go_roundw
        case rel => exact ⟨i + 1, by omega, by go_num, by rw [List.take_add_one, HX.out, lcells_append, ← List.append_assoc]; simpa [lcells] using HR2.out, HB2.out⟩
        case measure => simp [intOf]; omega
      · obtain rfl : i = ks.length := by omega
        go_wp2
        go_ret
        refine ⟨_, rfl, ?_, HBW.out⟩
        have := HR.out
        rw [List.take_length] at this
        rw [tcells_mk]
        simpa using this
set_option maxRecDepth 100000 in
theorem bad_calls (x : S66) (w : World) : Calls Try.prog 107 #[.agg #[.int .i64 x.f0, .int .i64 x.f1]] w fun e w' => e = .returned (.bool (!cellB x)) ∧ Below w.heap.size w w' := by
  go_enter Try.func107, Try.ntmps107
  go_wp2_with (go_at_call 91; refine (cellOk_calls x _).mono ?_; rintro e w' ⟨rfl, hb⟩; have HB := Lib.hid (ar_ (show Below w.heap.size w _ from by repeat (first | exact Below.refl _ _ | apply ai_)) hb); clear hb)
  go_ret
  exact ⟨rfl, HB.out⟩
theorem rd66_mem (l : List S66) (i : Nat) (h : i < l.length) : l[i]? = some (rd_T66 l (i : Int)) := by
  simp [rd_T66, List.getD_eq_getElem?_getD, h]
set_option maxRecDepth 100000 in
set_option maxHeartbeats 1000000 in
theorem indexCell_calls (l : List S66) (hlen : l.length ≤ 1000) (A : Option Addr) (c : Nat) (w : World) (hc : l.length ≤ c) (hr : Kd.C k66 w A l.length l) :
    Calls Try.prog 130 #[.slice A l.length c, .func (.func 107) #[] #[]] w fun e w' => (∃ n : Int, e = .returned (.int .i64 n) ∧ (0 ≤ n ↔ ¬ l.all cellB = true)) ∧ Below w.heap.size w w' := by
  have HR := Lib.hid hr
  clear hr
  go_enter Try.func130, Try.ntmps130
  go_wp2
  go_loopw [5, 8] (fun v5 v8 wr => ∃ k : Nat, k ≤ l.length ∧ v8 = .int .i64 k ∧ Hid (∀ x ∈ l.take k, cellB x = true) ∧ Below w.heap.size w wr) (fun _ v8 _ => l.length - (intOf v8).toNat)
  case atStart => exact ⟨0, Nat.zero_le _, rfl, Lib.hid (by simp), Below.refl _ _⟩
  case round =>
    obtain ⟨i, hi, rfl, HA, hBw⟩ := hrel
    by_cases hlt : i < l.length
    · obtain ⟨ad, rfl, x0, x1⟩ := at_T66 (Kd.C_below HR.out hBw) (i : Int) (by omega) (by omega)
      rw [Int.toNat_natCast] at x0 x1
      have HX := Lib.hid (rd66_mem l i hlt)
      cases hb : cellB (rd_T66 l (i : Int)) with
      | true =>
        have HBX := Lib.hid hb
        clear hb
        go_wp2_with (go_at_call 107; refine (bad_calls _ _).mono ?_; rw [HBX.out]; rintro e w' ⟨rfl, hbw⟩)
        go_roundw
        case rel =>
          refine ⟨i + 1, by omega, by go_num, Lib.hid ?_, ar_ hBw hbw⟩
          intro y hy
          rw [List.take_add_one, HX.out] at hy
          simp at hy
          rcases hy with hy | rfl
          · exact HA.out y hy
          · exact HBX.out
        case measure => simp [intOf]; omega
      | false =>
        have HBX := Lib.hid hb
        clear hb
        go_wp2_with (go_at_call 107; refine (bad_calls _ _).mono ?_; rw [HBX.out]; rintro e w' ⟨rfl, hbw⟩)
        go_ret
        refine ⟨⟨i, rfl, ?_⟩, ar_ hBw hbw⟩
        have hm := List.mem_of_getElem? HX.out
        constructor
        · intro _ h
          rw [List.all_eq_true] at h
          have := h _ hm
          rw [HBX.out] at this
          cases this
        · intro _; omega
    · have : i = l.length := by omega
      subst this
      go_wp2
      go_ret
      refine ⟨⟨-1, rfl, ?_⟩, hBw⟩
      have := HA.out
      rw [List.take_length] at this
      constructor
      · intro h; omega
      · intro h; exact absurd (List.all_eq_true.2 this) h
theorem containsCell_calls (l : List S66) (hlen : l.length ≤ 1000) (A : Option Addr) (c : Nat) (w : World) (hc : l.length ≤ c) (hr : Kd.C k66 w A l.length l) :
    Calls Try.prog 106 #[.slice A l.length c, .func (.func 107) #[] #[]] w fun e w' => e = .returned (.bool (!l.all cellB)) ∧ Below w.heap.size w w' := by
  have HR := Lib.hid hr
  clear hr
  cases hb : l.all cellB with
  | true =>
    have H := Lib.hid hb
    clear hb
    go_enter Try.func106, Try.ntmps106
    go_wp2_with (go_at_call 130; refine (indexCell_calls l hlen A c _ hc HR.out).mono ?_; rw [H.out]; rintro e w' ⟨⟨n, rfl, hn⟩, hbw⟩; have hn0 : ¬ 0 ≤ n := fun z => hn.1 z rfl; clear hn)
    go_ret
    exact ⟨by simp; omega, hbw⟩
  | false =>
    have H := Lib.hid hb
    clear hb
    go_enter Try.func106, Try.ntmps106
    go_wp2_with (go_at_call 130; refine (indexCell_calls l hlen A c _ hc HR.out).mono ?_; rw [H.out]; rintro e w' ⟨⟨n, rfl, hn⟩, hbw⟩; have hn0 : 0 ≤ n := hn.2 (by simp); clear hn)
    go_ret
    exact ⟨by simp [hn0], hbw⟩
def RowPost (r : List S66 × Bool) (w : World) (e : Ending) (w' : World) : Prop := ∃ v, e = .returned (.tuple #[v, .bool r.2]) ∧ Kd.R k66 66 w' w.heap.size (fun _ => True) v r.1 ∧ Below w.heap.size w w'
theorem RowPost.lower {r : List S66 × Bool} {w w1 : World} (hb : Below w.heap.size w w1) {e : Ending} {w' : World} (h : RowPost r w1 e w') : RowPost r w e w' := by
  obtain ⟨v, he, hv, hb1⟩ := h
  exact ⟨v, he, Kd.R_lower hv hb.size, ar_ hb hb1⟩
set_option maxRecDepth 100000 in
theorem good_calls (S : Nat → Prop) (t : Tm) (g : Nat) (w : World) (hw : t.wf) (hT : TAt S w g t) : Calls Try.prog 63 #[ptr g] w (RowPost (goodOfT t) w) := by
  have c3 := hT.size_cell
  have hle := size_cnt_le t 600 (by omega)
  unfold goodOfT
  by_cases h : t.cnt ≤ 600
  · rw [if_pos h]
    have C := Lib.hid (cells_calls w.heap.size t g (.slice none 0 0) [] w hw hT.belowB (Nat.le_refl _) (Kd.R_nil _ _ _ _ _) (by simp; omega))
    have d3 : decide ((600 : Int) < t.size) = false := decide_eq_false (by have := hle.2 h; omega)
    have hcl : (tcells t).length ≤ 1000 := by rw [tcells_len]; omega
    unfold ptr at C ⊢
    clear hT hle h
    cases hb : (tcells t).all cellB with
    | true =>
      have H := Lib.hid hb
      clear hb
      go_enter Try.func63, Try.ntmps63
      go_wp2_with (first
        | (go_at_call 105; refine C.out.mono ?_; rintro e w' ⟨v, rfl, hv, hb⟩; rw [List.nil_append] at hv; obtain ⟨A, c, rfl, hc, hC⟩ := Kd.R_reads hv; have HV := Lib.hid hv; have HB := Lib.hid hb; have HC := Lib.hid hC; clear hv hb hC)
        | (go_at_call 106; refine (containsCell_calls (tcells t) hcl A c _ hc HC.out).mono ?_; rw [H.out]; rintro e w2 ⟨rfl, hb2⟩; have HB2 := Lib.hid hb2; clear hb2))
      go_ret2
      exact ⟨_, rfl, Kd.R_below HV.out HB2.out, ar_ HB.out HB2.out⟩
    | false =>
      have H := Lib.hid hb
      clear hb
      go_enter Try.func63, Try.ntmps63
      go_wp2_with (first
        | (go_at_call 105; refine C.out.mono ?_; rintro e w' ⟨v, rfl, hv, hb⟩; rw [List.nil_append] at hv; obtain ⟨A, c, rfl, hc, hC⟩ := Kd.R_reads hv; have HV := Lib.hid hv; have HB := Lib.hid hb; have HC := Lib.hid hC; clear hv hb hC)
        | (go_at_call 106; refine (containsCell_calls (tcells t) hcl A c _ hc HC.out).mono ?_; rw [H.out]; rintro e w2 ⟨rfl, hb2⟩; have HB2 := Lib.hid hb2; clear hb2))
      go_ret2
      exact ⟨_, rfl, Kd.R_nil _ _ _ _ _, ar_ HB.out HB2.out⟩
  · rw [if_neg h]
    have d3 : decide ((600 : Int) < t.size) = true := aq_ (by have := fun x => h (hle.1 x); omega)
    unfold ptr
    clear hT hle h
    go_enter Try.func63, Try.ntmps63
    go_wp2
    go_ret2
    exact ⟨_, rfl, Kd.R_nil _ _ _ _ _, Below.refl _ _⟩
end Go.Proofs.Ytgoiifpimpnlpaa.PAll

end

section
namespace Go.Proofs.Ytgoiifpimpnlpaa.PAll
open Go.RowKit Go.Proofs.YtgoiifpimpnlpaaW.PrintWords Go.Proofs.YtgoiifpimpnlpaaW.PrintLast Go.Proofs.YtgoiifpimpnlpaaW.PrintMore
set_option linter.unusedVariables false
set_option linter.unusedSimpArgs false
def substOf (l : List S66) (k : Int) (s : List S66) : List S66 × Bool := match tmof l with
  | none => ([], false)
  | some t => match tmof s with
    | none => ([], false)
    | some u => if 0 ≤ k ∧ k ≤ 99 then goodOfT (tsubst k u t) else ([], false)
set_option maxRecDepth 100000 in
set_option maxHeartbeats 1000000 in
theorem SubstTerm_calls (l : List S66) (A : Option Addr) (c : Nat) (k : Int) (s : List S66) (A1 : Option Addr) (c1 : Nat) (w : World) (hr : Kd.C k66 w A l.length l) (hc : l.length ≤ c) (hr1 : Kd.C k66 w A1 s.length s) (hc1 : s.length ≤ c1) :
    Calls Try.prog 25 #[.slice A l.length c, .int .i64 k, .slice A1 s.length c1] w (RowPost (substOf l k s) w) := by
  have HR := Lib.hid hr
  have HR1 := Lib.hid hr1
  clear hr hr1
  unfold substOf
  cases hq : tmof l with
  | none =>
    simp only
    have HQ := Lib.hid hq
    clear hq
    go_enter Try.func25, Try.ntmps25
    go_wp2_with fail
    refine (termOf_calls l A c _ HR.out hc).mono ?_
    rw [HQ.out]
    rintro e w1 ⟨hb1, rfl⟩
    have HB1 := Lib.hid hb1
    clear hb1
    go_wp2_with fail
    refine (termOf_calls s A1 c1 _ (Kd.C_below HR1.out HB1.out) hc1).mono ?_
    cases hq2 : tmof s with
    | none =>
      rintro e w2 ⟨hb2, rfl⟩
      have HB2 := Lib.hid (ar_ HB1.out hb2)
      clear hb2 hq2
      go_wp2
      go_ret2
      exact ⟨_, rfl, Kd.R_nil _ _ _ _ _, HB2.out⟩
    | some u =>
      rintro e w2 ⟨hb2, g, rfl, hu⟩
      have HB2 := Lib.hid (ar_ HB1.out hb2)
      clear hb2 hq2 hu
      unfold ptr
      go_wp2
      go_ret2
      exact ⟨_, rfl, Kd.R_nil _ _ _ _ _, HB2.out⟩
  | some t =>
    simp only
    have hw := tmof_wf hq
    have hv := tmof_vb hq
    have HQ := Lib.hid hq
    clear hq
    cases hq2 : tmof s with
    | none =>
      have HQ2 := Lib.hid hq2
      clear hq2
      go_enter Try.func25, Try.ntmps25
      go_wp2_with fail
      refine (termOf_calls l A c _ HR.out hc).mono ?_
      rw [HQ.out]
      rintro e w1 ⟨hb1, g, rfl, ht⟩
      have HB1 := Lib.hid hb1
      clear hb1 ht
      unfold ptr
      go_wp2_with fail
      refine (termOf_calls s A1 c1 _ (Kd.C_below HR1.out HB1.out) hc1).mono ?_
      rw [HQ2.out]
      rintro e w2 ⟨hb2, rfl⟩
      have HB2 := Lib.hid (ar_ HB1.out hb2)
      clear hb2
      go_wp2
      go_ret2
      exact ⟨_, rfl, Kd.R_nil _ _ _ _ _, HB2.out⟩
    | some u =>
      simp only
      have hw2 := tmof_wf hq2
      have hv2 := tmof_vb hq2
      have HQ2 := Lib.hid hq2
      clear hq2
      have hwf := chg_wf (k := k) u hw2 t hw
      by_cases hk : 0 ≤ k ∧ k ≤ 99
      · obtain ⟨k0, k1⟩ := hk
        rw [if_pos ⟨k0, k1⟩]
        go_enter Try.func25, Try.ntmps25
        go_wp2_with fail
        refine (termOf_calls l A c _ HR.out hc).mono ?_
        rw [HQ.out]
        rintro e w1 ⟨hb1, g, rfl, ht⟩
        have HT := Lib.hid ht
        have HB1 := Lib.hid hb1
        clear hb1 ht
        unfold ptr
        go_wp2_with fail
        refine (termOf_calls s A1 c1 _ (Kd.C_below HR1.out HB1.out) hc1).mono ?_
        rw [HQ2.out]
        rintro e w2 ⟨hb2, gs, rfl, hu⟩
        have HB2 := Lib.hid (ar_ HB1.out hb2)
        have HT2 := Lib.hid (show TAt (fun _ => True) w2 g t from TAt.step (fun _ _ _ => rfl) (fun _ _ _ => trivial) (HT.out.below hb2))
        have HU := Lib.hid (show TAt (fun _ => True) w2 gs u from TAt.step (fun _ _ _ => rfl) (fun _ _ _ => trivial) hu)
        clear hb2 hu
        unfold ptr
        have C := Lib.hid (fun (W : World) (hb : Below w2.heap.size w2 W) => subst_calls (fun _ => True) 99 k t u g gs W (by omega) (by omega) (by omega) (by have := hv.2; omega) hv.1 hw (by have := hv2.2; omega) hv2.1 hw2 (fun _ _ => trivial) (HT2.out.below hb) (HU.out.below hb))
        unfold ptr at C
        clear hw hv hw2 hv2
        go_wp2_with (first
          | (go_at_call 53; refine (within_yes _ _ _ _ k0 k1).mono ?_; rintro e w' ⟨rfl, rfl⟩)
          | (go_at_call 62; (with_reducible refine (C.out _ (by repeat (first | exact Below.refl _ _ | apply ag_ | apply ah_))).mono ?_); rintro e w3 hpost; obtain ⟨r, rfl, hr, hb3⟩ := PPost.lower (show Below w2.heap.size w2 _ from by repeat (first | exact Below.refl _ _ | apply ag_ | apply ah_)) hpost; have HR3 := Lib.hid hr; have HB3 := Lib.hid (ar_ HB2.out hb3); clear hpost hr hb3)
          | (go_at_call 63; refine (good_calls (fun _ => True) _ r _ hwf HR3.out).mono ?_; rintro e w4 hpost; obtain ⟨v, rfl, hv, hb4⟩ := RowPost.lower HB3.out hpost; have HV := Lib.hid hv; have HB4 := Lib.hid hb4; clear hv hb4 hpost))
        go_ret2
        exact ⟨_, rfl, HV.out, HB4.out⟩
      · rw [if_neg hk]
        go_enter Try.func25, Try.ntmps25
        go_wp2_with fail
        refine (termOf_calls l A c _ HR.out hc).mono ?_
        rw [HQ.out]
        rintro e w1 ⟨hb1, g, rfl, ht⟩
        have HT := Lib.hid ht
        have HB1 := Lib.hid hb1
        clear hb1 ht
        unfold ptr
        go_wp2_with fail
        refine (termOf_calls s A1 c1 _ (Kd.C_below HR1.out HB1.out) hc1).mono ?_
        rw [HQ2.out]
        rintro e w2 ⟨hb2, gs, rfl, hu⟩
        have HB2 := Lib.hid (ar_ HB1.out hb2)
        have HT2 := Lib.hid (show TAt (fun _ => True) w2 g t from TAt.step (fun _ _ _ => rfl) (fun _ _ _ => trivial) (HT.out.below hb2))
        have HU := Lib.hid (show TAt (fun _ => True) w2 gs u from TAt.step (fun _ _ _ => rfl) (fun _ _ _ => trivial) hu)
        clear hb2 hu
        unfold ptr
        have HN := Lib.hid hk
        clear hk hw hv hw2 hv2
        go_wp2_with (go_at_call 53; refine (within_no _ _ _ _ HN.out).mono ?_; rintro e w' ⟨rfl, rfl⟩)
        go_ret2
        exact ⟨_, rfl, Kd.R_nil _ _ _ _ _, HB2.out⟩
end Go.Proofs.Ytgoiifpimpnlpaa.PAll

end

section
namespace Go.Proofs.Ytgoiifpimpnlpaa.PAll
open Go.RowKit Go.Proofs.YtgoiifpimpnlpaaW.PrintWords Go.Proofs.YtgoiifpimpnlpaaW.PrintLast Go.Proofs.YtgoiifpimpnlpaaW.PrintMore
attribute [local go_sem] max2_int min2_int max_two min_two max_three min_three max_four min_four   -- for this text's walks alone
set_option linter.unusedVariables false
set_option linter.unusedSimpArgs false
def spec_l3Binds.f (a0 : Int) (a1 : Int) : Option (Int) := if a0 = 3 then (some 1) else (if a0 = 7 then (if a1 = 1 then (some 1) else (some 0)) else (some 0))
set_option maxHeartbeats 8000000 in
set_option maxRecDepth 100000 in
theorem spec_l3Binds.calls (a0 : Int) (a1 : Int) (r : Int) (w : World) (h : spec_l3Binds.f a0 a1 = some r) :
    Calls Try.prog 118 #[.int .i64 a0, .int .i64 a1] w fun e w' => e = .returned (.int .i64 r) ∧ Drawn0 w w' := by
  have H : (if a0 = 3 then (some 1) else (if a0 = 7 then (if a1 = 1 then (some 1) else (some 0)) else (some 0))) = some r := h
  clear h
  by_cases c3 : a0 = 3
  · rw [if_pos c3] at H
    have c3b0 : (a0 == 3) = true := beq_iff_eq.mpr c3
    have c3b1 : (a0 != 3) = false := bne_eq_false_iff_eq.mpr c3
    clear c3
    obtain rfl := Option.some.inj H
    go_enter Try.func118, Try.ntmps118
    go_wp2
    go_ret
    exact ⟨by first | rfl | (simp; done) | (simp [*]; done), by repeat (first | exact Drawn0.refl _ | apply Drawn0.step)⟩
  · rw [if_neg c3] at H
    have c3b0 : (a0 == 3) = false := beq_eq_false_iff_ne.mpr c3
    have c3b1 : (a0 != 3) = true := bne_iff_ne.mpr c3
    by_cases c4 : a0 = 7
    · rw [if_pos c4] at H
      have c4b0 : (a0 == 7) = true := beq_iff_eq.mpr c4
      have c4b1 : (a0 != 7) = false := bne_eq_false_iff_eq.mpr c4
      clear c4
      by_cases c5 : a1 = 1
      · rw [if_pos c5] at H
        have c5b0 : (a1 == 1) = true := beq_iff_eq.mpr c5
        have c5b1 : (a1 != 1) = false := bne_eq_false_iff_eq.mpr c5
        clear c5
        obtain rfl := Option.some.inj H
        go_enter Try.func118, Try.ntmps118
        go_wp2
        go_ret
        exact ⟨by first | rfl | (simp; done) | (simp [*]; done), by repeat (first | exact Drawn0.refl _ | apply Drawn0.step)⟩
      · rw [if_neg c5] at H
        have c5b0 : (a1 == 1) = false := beq_eq_false_iff_ne.mpr c5
        have c5b1 : (a1 != 1) = true := bne_iff_ne.mpr c5
        obtain rfl := Option.some.inj H
        go_enter Try.func118, Try.ntmps118
        go_wp2
        go_ret
        exact ⟨by first | rfl | (simp; done) | (simp [*]; done), by repeat (first | exact Drawn0.refl _ | apply Drawn0.step)⟩
    · rw [if_neg c4] at H
      have c4b0 : (a0 == 7) = false := beq_eq_false_iff_ne.mpr c4
      have c4b1 : (a0 != 7) = true := bne_iff_ne.mpr c4
      obtain rfl := Option.some.inj H
      go_enter Try.func118, Try.ntmps118
      go_wp2
      go_ret
      exact ⟨by first | rfl | (simp; done) | (simp [*]; done), by repeat (first | exact Drawn0.refl _ | apply Drawn0.step)⟩
end Go.Proofs.Ytgoiifpimpnlpaa.PAll

end

section
namespace Go.Proofs.Ytgoiifpimpnlpaa.PAll
open Go.RowKit Go.Proofs.YtgoiifpimpnlpaaW.PrintWords Go.Proofs.YtgoiifpimpnlpaaW.PrintLast Go.Proofs.YtgoiifpimpnlpaaW.PrintMore
attribute [local go_sem] max2_int min2_int max_two min_two max_three min_three max_four min_four   -- for this text's walks alone
set_option linter.unusedVariables false
set_option linter.unusedSimpArgs false
mutual
def spec_l3Uses.j0 : Nat → Int → Bool → Int → Int → List (S62) → Option (Int)
  | 0, _, _, _, _, _ => none
  | k + 1, x1, x16, x306000, x306001, x306002 => if x16 = true then (some 1) else (spec_l3Uses.l0 k x1 0 x306002 (x306002.length : Int) 0 x306000 x306001 x306002)
def spec_l3Uses.l0 : Nat → Int → Int → List (S62) → Int → Int → Int → Int → List (S62) → Option (Int)
  | 0, _, _, _, _, _, _, _, _ => none
  | k + 1, x1, x5, x18, x19, x20, x306000, x306001, x306002 => if x20 < x19 then (if 0 ≤ x20 then (if x20 < (x18.length : Int) then ((spec_l3Binds.f x306000 x20).bind fun t308 => ((spec_l3Uses.f k ((rd_T62 x18 x20).f0) ((rd_T62 x18 x20).f1) ((rd_T62 x18 x20).f2) (wrap64 (x1 + t308))).bind fun t309 => (spec_l3Uses.l0 k x1 (wrap64 (x5 + t309)) x18 x19 (wrap64 (x20 + 1)) x306000 x306001 x306002))) else (none)) else (none)) else (some x5)
def spec_l3Uses.f : Nat → Int → Int → List (S62) → Int → Option (Int)
  | 0, _, _, _, _ => none
  | k + 1, a0_0, a0_1, l0_2, a1 => if a0_0 = 1 then (spec_l3Uses.j0 k a1 (a0_1 == a1) a0_0 a0_1 l0_2) else (spec_l3Uses.j0 k a1 false a0_0 a0_1 l0_2)
end
theorem spec_l3Uses.mono_l : ∀ k, (∀ y0 y1 y2 y3, LeO (spec_l3Uses.f k y0 y1 y2 y3) (spec_l3Uses.f (k + 1) y0 y1 y2 y3)) ∧ (∀ y0 y1 y2 y3 y4, LeO (spec_l3Uses.j0 k y0 y1 y2 y3 y4) (spec_l3Uses.j0 (k + 1) y0 y1 y2 y3 y4)) ∧ (∀ y0 y1 y2 y3 y4 y5 y6 y7, LeO (spec_l3Uses.l0 k y0 y1 y2 y3 y4 y5 y6 y7) (spec_l3Uses.l0 (k + 1) y0 y1 y2 y3 y4 y5 y6 y7))
  | 0 => ⟨fun _ _ _ _ r h => by simp [spec_l3Uses.f] at h, fun _ _ _ _ _ r h => by simp [spec_l3Uses.j0] at h, fun _ _ _ _ _ _ _ _ r h => by simp [spec_l3Uses.l0] at h⟩
  | k + 1 => by
    obtain ⟨ih0, ih1, ih2⟩ := spec_l3Uses.mono_l k
    refine ⟨?_, ?_, ?_⟩
    · intro y0 y1 y2 y3
      unfold spec_l3Uses.f
      repeat' first
      | (with_reducible exact ih0 _ _ _ _)
      | (with_reducible exact ih1 _ _ _ _ _)
      | (with_reducible exact ih2 _ _ _ _ _ _ _ _)
      | (with_reducible exact LeO.refl _)
      | (with_reducible exact LeO.none _)
      | (with_reducible refine LeO.ite ?_ ?_)
      | (with_reducible refine LeO.bind ?_ (fun _ => ?_))
      | exact ih0 _ _ _ _
      | exact ih1 _ _ _ _ _
      | exact ih2 _ _ _ _ _ _ _ _
      | exact LeO.none _
      | refine LeO.ite ?_ ?_
      | refine LeO.bind ?_ (fun _ => ?_)
    · intro y0 y1 y2 y3 y4
      unfold spec_l3Uses.j0
      repeat' first
      | (with_reducible exact ih0 _ _ _ _)
      | (with_reducible exact ih1 _ _ _ _ _)
      | (with_reducible exact ih2 _ _ _ _ _ _ _ _)
      | (with_reducible exact LeO.refl _)
      | (with_reducible exact LeO.none _)
      | (with_reducible refine LeO.ite ?_ ?_)
      | (with_reducible refine LeO.bind ?_ (fun _ => ?_))
      | exact ih0 _ _ _ _
      | exact ih1 _ _ _ _ _
      | exact ih2 _ _ _ _ _ _ _ _
      | exact LeO.none _
      | refine LeO.ite ?_ ?_
      | refine LeO.bind ?_ (fun _ => ?_)
    · intro y0 y1 y2 y3 y4 y5 y6 y7
      unfold spec_l3Uses.l0
      repeat' first
      | (with_reducible exact ih0 _ _ _ _)
      | (with_reducible exact ih1 _ _ _ _ _)
      | (with_reducible exact ih2 _ _ _ _ _ _ _ _)
      | (with_reducible exact LeO.refl _)
      | (with_reducible exact LeO.none _)
      | (with_reducible refine LeO.ite ?_ ?_)
      | (with_reducible refine LeO.bind ?_ (fun _ => ?_))
      | exact ih0 _ _ _ _
      | exact ih1 _ _ _ _ _
      | exact ih2 _ _ _ _ _ _ _ _
      | exact LeO.none _
      | refine LeO.ite ?_ ?_
      | refine LeO.bind ?_ (fun _ => ?_)
theorem spec_l3Uses.mono : ∀ a0 a1 a2 a3 k, LeO (spec_l3Uses.f k a0 a1 a2 a3) (spec_l3Uses.f (k + 1) a0 a1 a2 a3) := by
  intro a0 a1 a2 a3 k
  obtain ⟨ih0, ih1, ih2⟩ := spec_l3Uses.mono_l k
  exact ih0 a0 a1 a2 a3
def spec_l3Uses.T7 : Bool × List (List Nat × List Nat) := (true, [([], []), ([], []), ([], []), ([], []), ([3], [3]), ([], []), ([4, 5], [4, 5]), ([2, 6], [2, 6]), ([1, 7, 6], [1, 7]), ([0, 8], [0, 8]), ([9, 8, 0, 1, 2, 3, 4, 5, 6, 7, 8, 9], [0, 9])])
def spec_l3Uses.B7 : List Nat := [0, 0, 0, 0, 8, 0, 56, 124, 254, 511, 1023]
theorem spec_l3Uses.tab7 : rtab .any (opsOf Try.f99 7) = spec_l3Uses.T7 := by kernel_rfl
theorem spec_l3Uses.bits7 : waitsOk spec_l3Uses.T7.2 spec_l3Uses.B7 = true := by kernel_rfl
set_option maxHeartbeats 8000000 in
set_option maxRecDepth 100000 in
theorem spec_l3Uses.calls (k : Nat) : ∀ (a0_0 : Int) (a0_1 : Int) (A0_2 : Option Addr) (c0_2 : Nat) (l0_2 : List (S62)) (a1 : Int) (r : Int) (w : World) (hr0_2 : Kd.C k62 w A0_2 l0_2.length l0_2) (hc0_2 : l0_2.length ≤ c0_2) (h : spec_l3Uses.f k a0_0 a0_1 l0_2 a1 = some r),
    Calls Try.prog 99 #[.agg #[.int .i64 a0_0, .int .i64 a0_1, .slice A0_2 l0_2.length c0_2], .int .i64 a1] w fun e w' => e = .returned (.int .i64 r) ∧ Below w.heap.size w w' := by
  induction k using Nat.strongRecOn with
  | _ k ih =>
  intro a0_0 a0_1 A0_2 c0_2 l0_2 a1 r w hr0_2 hc0_2 h
  cases k with
  | zero => exact absurd h (by simp [spec_l3Uses.f])
  | succ k =>
  simp only [spec_l3Uses.f] at h
  have hu62 := Try.underlying62
  have HR0_2 := ab_ hr0_2
  have HC0_2 := ab_ hc0_2
  clear hr0_2 hc0_2
  have HB := ab_ (Below.refl w.heap.size w)
  have H : (if a0_0 = 1 then (spec_l3Uses.j0 k a1 (a0_1 == a1) a0_0 a0_1 l0_2) else (spec_l3Uses.j0 k a1 false a0_0 a0_1 l0_2)) = some r := h
  clear h
  have HC3 := ab_ H
  clear H
  go_enter Try.func99, Try.ntmps99
  go_upto_region 1 with (first | ((with_reducible refine gate_dst (N := 2) rfl ?_); refine box_event ?hg (N := 2) ?hd (cs := #[.int .i64 a0_0, .int .i64 a0_1, .slice A0_2 l0_2.length c0_2]) (t := 62) ?hr ?_; (case hd => rfl); (case hg => rfl); (case hr => first | (go_simp; done) | (go_simp; rfl)); intro gb305 hg w4 hbox hb; have n0_ := ab_ (ar_ (by repeat (first | (with_reducible first | exact HB.out | apply ai_ | apply ag_ | apply ah_) | exact HB.out)) hb); have n1_ := ab_ (hbox); have n2_ := ab_ ((by rw [hg]; exact (below_size (by repeat (first | (with_reducible first | exact HB.out | apply ai_ | apply ag_ | apply ah_) | exact HB.out))) : w.heap.size ≤ gb305)); have n3_ := ab_ ((by rw [hg]; exact (below_size (by repeat (first | (with_reducible first | exact HB.out | apply ai_ | apply ag_ | apply ah_) | exact HB.out))) : w.heap.size ≤ gb305)); clear HB; have HB := n0_; have BK305 := n1_; have GW305 := n2_; have GE305 := n3_; clear n0_ n1_ n2_ n3_; clear hb hbox hg))
  (try simp only [Act.put, List.setIfInBounds_toArray, List.set_cons_zero, List.set_cons_succ])
  go_cut [16] (fun v16 wc => ∃ (kq : Nat) (x16_2 : Bool), v16 = .bool x16_2 ∧ Aside0 (spec_l3Uses.j0 kq a1 x16_2 a0_0 a0_1 l0_2 = some r) ∧ Aside0 (kq ≤ k) ∧ Aside0 (wc.heap[gb305]? = some (.cells #[.int .i64 a0_0, .int .i64 a0_1, (.slice A0_2 l0_2.length c0_2)] 62 (0, 0))) ∧ Aside0 (Below w.heap.size w wc))
  case first =>
    have H := HC3.out
    clear HC3
    by_cases c5 : a0_0 = 1
    · rw [if_pos c5] at H
      have c5b0 : (a0_0 == 1) = true := beq_iff_eq.mpr c5
      have c5b1 : (a0_0 != 1) = false := bne_eq_false_iff_eq.mpr c5
      clear c5
      (first | rw [c5b0] | (simp only [i64_w, i32_w]; rw [c5b0]) | skip)
      have H' := ab_ H
      clear H
      have hcz6_0 : w4.cell? ⟨gb305, 0, none⟩ = some (.int .i64 a0_0) := (am_ BK305.out 0).trans rfl
      have hcz6_1 : w4.cell? ⟨gb305, 1, none⟩ = some (.int .i64 a0_1) := (am_ BK305.out 1).trans rfl
      have hcz6_2 : w4.cell? ⟨gb305, 2, none⟩ = some (.slice A0_2 l0_2.length c0_2) := (am_ BK305.out 2).trans rfl
      have hfz6_0 := al_ BK305.out 0
      have hfz6_1 := al_ BK305.out 1
      have hfz6_2 := al_ BK305.out 2
      go_wp2
      go_meet
      case rel => exact ⟨_, ((a0_1 == a1)), (by first | rfl | (simp; done) | (simp [*]; done)), H', ⟨by first | omega | exact Nat.le_refl _⟩, ⟨by (with_reducible repeat (first | refine ac_ ?_ _ | refine ae_ ?_ | refine ad_ ?_ _)); exact BK305.out⟩, ⟨by repeat (first | (with_reducible first | exact HB.out | apply ai_ | apply ag_ | apply ah_ | refine af_ ?_ GE305.out) | exact HB.out)⟩⟩
    · rw [if_neg c5] at H
      have c5b0 : (a0_0 == 1) = false := beq_eq_false_iff_ne.mpr c5
      have c5b1 : (a0_0 != 1) = true := bne_iff_ne.mpr c5
      (first | rw [c5b0] | (simp only [i64_w, i32_w]; rw [c5b0]) | skip)
      have H' := ab_ H
      clear H
      have hcz7_0 : w4.cell? ⟨gb305, 0, none⟩ = some (.int .i64 a0_0) := (am_ BK305.out 0).trans rfl
      have hcz7_1 : w4.cell? ⟨gb305, 1, none⟩ = some (.int .i64 a0_1) := (am_ BK305.out 1).trans rfl
      have hcz7_2 : w4.cell? ⟨gb305, 2, none⟩ = some (.slice A0_2 l0_2.length c0_2) := (am_ BK305.out 2).trans rfl
      have hfz7_0 := al_ BK305.out 0
      have hfz7_1 := al_ BK305.out 1
      have hfz7_2 := al_ BK305.out 2
      go_wp2
      go_meet
      case rel => exact ⟨_, (false), (by first | rfl | (simp; done) | (simp [*]; done)), H', ⟨by first | omega | exact Nat.le_refl _⟩, ⟨by (with_reducible repeat (first | refine ac_ ?_ _ | refine ae_ ?_ | refine ad_ ?_ _)); exact BK305.out⟩, ⟨by repeat (first | (with_reducible first | exact HB.out | apply ai_ | apply ag_ | apply ah_ | refine af_ ?_ GE305.out) | exact HB.out)⟩⟩
  case rest =>
    clear HC3
    try clear p2
    try clear c5
    try clear c5b0
    try clear c5b1
    try clear hcz6_0
    try clear hcz6_1
    try clear hcz6_2
    try clear hcz7_0
    try clear hcz7_1
    try clear hcz7_2
    try clear hfz6_0
    try clear hfz6_1
    try clear hfz6_2
    try clear hfz7_0
    try clear hfz7_1
    try clear hfz7_2
    obtain ⟨kq, x16_2, rfl, HA, HJ2, BK305, HB⟩ := hcut
    cases kq with
    | zero => exact absurd HA.out (by simp [spec_l3Uses.j0])
    | succ kj2 =>
      have H := HA.out
      clear HA
      simp only [spec_l3Uses.j0] at H
      by_cases c8 : x16_2 = true
      · subst c8
        have H1 : (some 1) = some r := by rw [if_pos rfl] at H; exact H
        clear H
        have H := H1
        clear H1
        obtain rfl := Option.some.inj H
        go_wp2
        go_ret
        exact ⟨by first | rfl | (simp [errW_none, errW_some] <;> rfl) | (simp [*, errW_none, errW_some] <;> rfl), by repeat (first | (with_reducible first | exact HB.out | apply ai_ | apply ag_ | apply ah_ | refine af_ ?_ GE305.out) | exact HB.out)⟩
      · replace c8 := Bool.eq_false_iff.mpr c8
        subst c8
        have H1 : (spec_l3Uses.l0 kj2 a1 0 l0_2 (l0_2.length : Int) 0 a0_0 a0_1 l0_2) = some r := by rw [if_neg (show ¬ (false = true) by decide)] at H; exact H
        clear H
        have H := H1
        clear H1
        have H' := ab_ H
        clear H
        have hcz9_0 : wc.cell? ⟨gb305, 0, none⟩ = some (.int .i64 a0_0) := (am_ BK305.out 0).trans rfl
        have hcz9_1 : wc.cell? ⟨gb305, 1, none⟩ = some (.int .i64 a0_1) := (am_ BK305.out 1).trans rfl
        have hcz9_2 : wc.cell? ⟨gb305, 2, none⟩ = some (.slice A0_2 l0_2.length c0_2) := (am_ BK305.out 2).trans rfl
        have hfz9_0 := al_ BK305.out 0
        have hfz9_1 := al_ BK305.out 1
        have hfz9_2 := al_ BK305.out 2
        go_wp2
        go_loopg [5, 20] kj2 (fun kq v5 v20 w' => ∃ (x5_2 : Int) (x20_2 : Int), v5 = .int .i64 x5_2 ∧ v20 = .int .i64 x20_2 ∧ Aside0 (spec_l3Uses.l0 kq a1 x5_2 l0_2 (l0_2.length : Int) x20_2 a0_0 a0_1 l0_2 = some r) ∧ Aside0 (kq ≤ kj2) ∧ Aside0 (w'.heap[gb305]? = some (.cells #[.int .i64 a0_0, .int .i64 a0_1, (.slice A0_2 l0_2.length c0_2)] 62 (0, 0))) ∧ Aside0 (Below w.heap.size w w'))
        case atStart => exact ⟨(0), (0), (by first | rfl | (simp; done) | (simp [*]; done)), (by first | rfl | (simp; done) | (simp [*]; done)), H', ⟨Nat.le_refl _⟩, ⟨by (with_reducible repeat (first | refine ac_ ?_ _ | refine ae_ ?_ | refine ad_ ?_ _)); exact BK305.out⟩, ⟨by repeat (first | (with_reducible first | exact HB.out | apply ai_ | apply ag_ | apply ah_ | refine af_ ?_ GE305.out) | exact HB.out)⟩⟩
        case round =>
          clear H'
          try clear p2
          try clear c5
          try clear c5b0
          try clear c5b1
          try clear c8
          try clear c9
          try clear hcz6_0
          try clear hcz6_1
          try clear hcz6_2
          try clear hcz7_0
          try clear hcz7_1
          try clear hcz7_2
          try clear hcz9_0
          try clear hcz9_1
          try clear hcz9_2
          try clear hfz6_0
          try clear hfz6_1
          try clear hfz6_2
          try clear hfz7_0
          try clear hfz7_1
          try clear hfz7_2
          try clear hfz9_0
          try clear hfz9_1
          try clear hfz9_2
          try clear p2
          obtain ⟨x5_2, x20_2, rfl, rfl, HA, HK2, BK305, HB⟩ := hrel
          cases gk with
          | zero => exact absurd HA.out (by simp [spec_l3Uses.l0])
          | succ k2 =>
            have H := HA.out
            clear HA
            simp only [spec_l3Uses.l0] at H
            by_cases c10 : x20_2 < (l0_2.length : Int)
            · rw [if_pos c10] at H
              have c10b0 : decide (x20_2 < (l0_2.length : Int)) = true := aq_ c10
              clear c10
              by_cases c11 : 0 ≤ x20_2
              · rw [if_pos c11] at H
                have c11b0 : decide (0 ≤ x20_2) = true := aq_ c11
                clear c11
                by_cases c12 : x20_2 < (l0_2.length : Int)
                · rw [if_pos c12] at H
                  have c12b0 : decide (x20_2 < (l0_2.length : Int)) = true := aq_ c12
                  clear c12
                  replace H := Option.bind_eq_some_iff.mp H
                  obtain ⟨t308, A130, H⟩ := H
                  replace H : ((spec_l3Uses.f k2 ((rd_T62 l0_2 x20_2).f0) ((rd_T62 l0_2 x20_2).f1) ((rd_T62 l0_2 x20_2).f2) (wrap64 (a1 + t308))).bind fun t309 => (spec_l3Uses.l0 k2 a1 (wrap64 (x5_2 + t309)) l0_2 (l0_2.length : Int) (wrap64 (x20_2 + 1)) a0_0 a0_1 l0_2)) = some r := H
                  have A13 := ab_ A130
                  clear A130
                  replace H := Option.bind_eq_some_iff.mp H
                  obtain ⟨t309, A140, H⟩ := H
                  replace H : (spec_l3Uses.l0 k2 a1 (wrap64 (x5_2 + t309)) l0_2 (l0_2.length : Int) (wrap64 (x20_2 + 1)) a0_0 a0_1 l0_2) = some r := H
                  have A14 := ab_ A140
                  clear A140
                  have H' := ab_ H
                  clear H
                  have p306 : 0 ≤ (x20_2 : Int) := of_decide_eq_true (by first | (with_reducible assumption) | assumption)
                  have q306 : x20_2 < (l0_2.length : Int) := of_decide_eq_true (by first | (with_reducible assumption) | assumption)
                  obtain ⟨ad306, A306_2, c306_2, e306, hx306_0, hx306_1, hx306_2, hl306_2, hi306_2⟩ := at_T62 HR0_2.out x20_2 p306 q306
                  cases e306
                  replace hx306_0 := (HB.out.cell (aa_ w _ hx306_0)).trans hx306_0
                  replace hx306_1 := (HB.out.cell (aa_ w _ hx306_1)).trans hx306_1
                  replace hx306_2 := (HB.out.cell (aa_ w _ hx306_2)).trans hx306_2
                  have HR306_2 := ab_ hi306_2
                  have HC306_2 := ab_ hl306_2
                  clear hi306_2 hl306_2
                  replace p306 := eq_true p306
                  replace q306 := eq_true q306
                  try go_wp2_with (first | ((with_reducible refine gate_dst (N := 7) rfl ?_); refine box_event ?hg (N := 7) ?hd (cs := #[.int .i64 0, .int .i64 0, .slice none 0 0]) (t := 62) ?hr ?_; (case hd => rfl); (case hg => rfl); (case hr => first | (go_simp; done) | (go_simp; rfl)); intro gb307 hg w15 hbox hb; have n0_ := ab_ (blk_below (g := gb305) (o := .cells #[.int .i64 a0_0, .int .i64 a0_1, .slice (some ad306) l0_2.length c0_2] 62 (0, 0)) (by (with_reducible repeat (first | refine ac_ ?_ _ | refine ae_ ?_ | refine ad_ ?_ _)); exact BK305.out) hb); have n1_ := ab_ (ar_ (by repeat (first | (with_reducible first | exact HB.out | apply ai_ | apply ag_ | apply ah_ | refine af_ ?_ GE305.out) | exact HB.out)) hb); have n2_ := ab_ (hbox); have n3_ := ab_ ((by rw [hg]; exact (below_size (by repeat (first | (with_reducible first | exact HB.out | apply ai_ | apply ag_ | apply ah_ | refine af_ ?_ GE305.out) | exact HB.out))) : w.heap.size ≤ gb307)); have n4_ := ab_ ((by rw [hg]; exact (below_size (by repeat (first | (with_reducible first | exact HB.out | apply ai_ | apply ag_ | apply ah_ | refine af_ ?_ GE305.out) | exact HB.out))) : w.heap.size ≤ gb307)); have n5_ := ab_ ((by rw [hg]; exact ak_ (blk_lt (g := gb305) (o := .cells #[.int .i64 a0_0, .int .i64 a0_1, .slice (some ad306) l0_2.length c0_2] 62 (0, 0)) (by (with_reducible repeat (first | refine ac_ ?_ _ | refine ae_ ?_ | refine ad_ ?_ _)); exact BK305.out)) : gb305 ≠ gb307)); have n6_ := ab_ ((by rw [hg]; exact Nat.ne_of_gt (blk_lt (g := gb305) (o := .cells #[.int .i64 a0_0, .int .i64 a0_1, .slice (some ad306) l0_2.length c0_2] 62 (0, 0)) (by (with_reducible repeat (first | refine ac_ ?_ _ | refine ae_ ?_ | refine ad_ ?_ _)); exact BK305.out)) : gb307 ≠ gb305)); clear BK305; clear HB; have BK305 := n0_; have HB := n1_; have BK307 := n2_; have GW307 := n3_; have GE307 := n4_; have NB305_307 := n5_; have NB307_305 := n6_; clear n0_ n1_ n2_ n3_ n4_ n5_ n6_; clear hb hbox hg; have hnb16 := NB307_305.out; have hnc16 := NB305_307.out; have hcz17_0 : w15.cell? ⟨gb307, 0, none⟩ = some (.int .i64 0) := (am_ BK307.out 0).trans rfl; have hcz17_1 : w15.cell? ⟨gb307, 1, none⟩ = some (.int .i64 0) := (am_ BK307.out 1).trans rfl; have hcz17_2 : w15.cell? ⟨gb307, 2, none⟩ = some (.slice none 0 0) := (am_ BK307.out 2).trans rfl; have hfz17_0 := al_ BK307.out 0; have hfz17_1 := al_ BK307.out 1; have hfz17_2 := al_ BK307.out 2))
                  have n0_ : Aside0 ((((w15.setCell ⟨gb307, 0, none⟩ (.int .i64 ((rd_T62 l0_2 x20_2).f0))).setCell ⟨gb307, 1, none⟩ (.int .i64 ((rd_T62 l0_2 x20_2).f1))).setCell ⟨gb307, 2, none⟩ (.slice A306_2 ((rd_T62 l0_2 x20_2).f2).length c306_2)).heap[gb305]? = some (.cells #[.int .i64 a0_0, .int .i64 a0_1, .slice (some ad306) l0_2.length c0_2] 62 (0, 0))) := ⟨by (with_reducible repeat (first | refine ac_ ?_ _ | refine ae_ ?_ | refine ad_ ?_ _)); refine blk_far ?_ NB305_307.out _; (with_reducible repeat (first | refine ac_ ?_ _ | refine ae_ ?_ | refine ad_ ?_ _)); refine blk_far ?_ NB305_307.out _; (with_reducible repeat (first | refine ac_ ?_ _ | refine ae_ ?_ | refine ad_ ?_ _)); refine blk_far ?_ NB305_307.out _; (with_reducible repeat (first | refine ac_ ?_ _ | refine ae_ ?_ | refine ad_ ?_ _)); exact BK305.out⟩
                  have n1_ : Aside0 ((((w15.setCell ⟨gb307, 0, none⟩ (.int .i64 ((rd_T62 l0_2 x20_2).f0))).setCell ⟨gb307, 1, none⟩ (.int .i64 ((rd_T62 l0_2 x20_2).f1))).setCell ⟨gb307, 2, none⟩ (.slice A306_2 ((rd_T62 l0_2 x20_2).f2).length c306_2)).heap[gb307]? = some (.cells #[.int .i64 ((rd_T62 l0_2 x20_2).f0), .int .i64 ((rd_T62 l0_2 x20_2).f1), .slice A306_2 ((rd_T62 l0_2 x20_2).f2).length c306_2] 62 (0, 0))) := ⟨by (with_reducible repeat (first | refine ac_ ?_ _ | refine ae_ ?_ | refine ad_ ?_ _)); refine blk_put (cs := #[.int .i64 ((rd_T62 l0_2 x20_2).f0), .int .i64 ((rd_T62 l0_2 x20_2).f1), .slice none 0 0]) ?_ 2 _ rfl; (with_reducible repeat (first | refine ac_ ?_ _ | refine ae_ ?_ | refine ad_ ?_ _)); refine blk_put (cs := #[.int .i64 ((rd_T62 l0_2 x20_2).f0), .int .i64 0, .slice none 0 0]) ?_ 1 _ rfl; (with_reducible repeat (first | refine ac_ ?_ _ | refine ae_ ?_ | refine ad_ ?_ _)); refine blk_put (cs := #[.int .i64 0, .int .i64 0, .slice none 0 0]) ?_ 0 _ rfl; (with_reducible repeat (first | refine ac_ ?_ _ | refine ae_ ?_ | refine ad_ ?_ _)); exact BK307.out⟩
                  have n2_ : Aside0 (Below w.heap.size w (((w15.setCell ⟨gb307, 0, none⟩ (.int .i64 ((rd_T62 l0_2 x20_2).f0))).setCell ⟨gb307, 1, none⟩ (.int .i64 ((rd_T62 l0_2 x20_2).f1))).setCell ⟨gb307, 2, none⟩ (.slice A306_2 ((rd_T62 l0_2 x20_2).f2).length c306_2))) := ⟨by repeat (first | (with_reducible first | exact HB.out | apply ai_ | apply ag_ | apply ah_ | refine af_ ?_ GE305.out | refine af_ ?_ GE307.out) | exact HB.out)⟩
                  (try clear BK305)
                  (try clear BK307)
                  (try clear HB)
                  generalize (((w15.setCell ⟨gb307, 0, none⟩ (.int .i64 ((rd_T62 l0_2 x20_2).f0))).setCell ⟨gb307, 1, none⟩ (.int .i64 ((rd_T62 l0_2 x20_2).f1))).setCell ⟨gb307, 2, none⟩ (.slice A306_2 ((rd_T62 l0_2 x20_2).f2).length c306_2)) = w18 at n0_ n1_ n2_ ⊢
                  have BK305 := n0_
                  have BK307 := n1_
                  have HB := n2_
                  clear n0_ n1_ n2_
                  have n0_ := ab_ (ae_ BK305.out)
                  have n1_ := ab_ (ae_ BK307.out)
                  have n2_ := ab_ (ah_ HB.out)
                  clear BK305
                  clear BK307
                  clear HB
                  have BK305 := n0_
                  have BK307 := n1_
                  have HB := n2_
                  clear n0_ n1_ n2_
                  refine start_ (n := 11) (S := fun w' => w'.cell? ⟨gb307, 0, none⟩ = some (.int .i64 ((rd_T62 l0_2 x20_2).f0)) ∧ w'.cell? ⟨gb307, 1, none⟩ = some (.int .i64 ((rd_T62 l0_2 x20_2).f1)) ∧ w'.cell? ⟨gb307, 2, none⟩ = some (.slice A306_2 ((rd_T62 l0_2 x20_2).f2).length c306_2) ∧ w'.cell? ⟨gb305, 0, none⟩ = some (.int .i64 a0_0) ∧ w'.cell? ⟨gb305, 1, none⟩ = some (.int .i64 a0_1) ∧ w'.cell? ⟨gb305, 2, none⟩ = some (.slice (some ad306) l0_2.length c0_2)) (ds := []) #[false, false, false, false, false, false, false, false, false, false, false] (by kernel_rfl) rfl rfl ⟨(am_ BK307.out 0).trans rfl, (am_ BK307.out 1).trans rfl, (am_ BK307.out 2).trans rfl, (am_ BK305.out 0).trans rfl, (am_ BK305.out 1).trans rfl, (am_ BK305.out 2).trans rfl⟩ (fun hHeld => ?_); refine with_tabW spec_l3Uses.tab7 spec_l3Uses.bits7 (fun HT_ HW_ => ?_)
                  generalize w18.drew = w19 at BK305 BK307 HB hHeld ⊢
                  refine pure_ (i := 0) (N := some 25) (v := ?_) (a' := ?_) #[true, false, false, false, false, false, false, false, false, false, false] rfl rfl (any_of HT_.out (by kernel_rfl)) (fun _ _ _ h => h) (Or.inl ⟨by rfl, ?_⟩) ?_ ?_
                  rotate_left
                  · intro w'
                    go_simp
                    with_reducible rfl
                  rotate_left
                  · simp only [Act.put, List.setIfInBounds_toArray, List.set_cons_zero, List.set_cons_succ, i64_w, i32_w]
                    rfl
                  refine pure_ (i := 2) (N := some 27) (v := ?_) (a' := ?_) #[true, false, true, false, false, false, false, false, false, false, false] rfl rfl (any_of HT_.out (by kernel_rfl)) (fun _ _ _ h => h) (Or.inl ⟨by rfl, ?_⟩) ?_ ?_
                  rotate_left
                  · intro w'
                    go_simp
                    with_reducible rfl
                  rotate_left
                  · simp only [Act.put, List.setIfInBounds_toArray, List.set_cons_zero, List.set_cons_succ, i64_w, i32_w]
                    rfl
                  refine pure_ (i := 3) (N := some 28) (v := ?_) (a' := ?_) #[true, false, true, true, false, false, false, false, false, false, false] rfl rfl (any_of HT_.out (by kernel_rfl)) (fun _ _ _ h => h) (Or.inl ⟨by rfl, ?_⟩) ?_ ?_
                  rotate_left
                  · intro w'
                    go_simp
                    with_reducible rfl
                  rotate_left
                  · simp only [Act.put, List.setIfInBounds_toArray, List.set_cons_zero, List.set_cons_succ, i64_w, i32_w]
                    rfl
                  refine pure_ (i := 5) (N := some 30) (v := ?_) (a' := ?_) #[true, false, true, true, false, true, false, false, false, false, false] rfl rfl (any_of HT_.out (by kernel_rfl)) (fun _ _ _ h => h) (Or.inl ⟨by rfl, ?_⟩) ?_ ?_
                  rotate_left
                  · intro w'
                    go_simp
                    with_reducible rfl
                  rotate_left
                  · simp only [Act.put, List.setIfInBounds_toArray, List.set_cons_zero, List.set_cons_succ, i64_w, i32_w]
                    rfl
                  refine take_ (i := 1) (N := some 26) (v := ?_) (a' := ?_) #[true, true, true, true, false, true, false, false, false, false, false] rfl rfl (take_ofW HT_.out HW_.out (by kernel_rfl)) (fun _ _ _ h => h) (Or.inl ⟨by rfl, ?_⟩) hHeld ?_ ?_
                  rotate_left
                  · rintro w' ⟨s0, s1, s2, s3, s4, s5⟩
                    go_simp
                    with_reducible rfl
                  rotate_left
                  · simp only [Act.put, List.setIfInBounds_toArray, List.set_cons_zero, List.set_cons_succ, i64_w, i32_w]
                    rfl
                  refine take_ (i := 4) (N := some 29) (v := ?_) (a' := ?_) #[true, true, true, true, true, true, false, false, false, false, false] rfl rfl (take_ofW HT_.out HW_.out (by kernel_rfl)) (fun _ _ _ h => h) (Or.inl ⟨by rfl, ?_⟩) hHeld ?_ ?_
                  rotate_left
                  · rintro w' ⟨s0, s1, s2, s3, s4, s5⟩
                    go_simp
                    with_reducible rfl
                  rotate_left
                  · simp only [Act.put, List.setIfInBounds_toArray, List.set_cons_zero, List.set_cons_succ, i64_w, i32_w]
                    rfl
                  refine one_ (i := 6) (N := some 31) #[true, true, true, true, true, true, true, false, false, false, false] rfl rfl (one_of HT_.out (by kernel_rfl)) (by decide) (fun K hK => ?_)
                  refine goes_ Try.func118 (by kernel_rfl) rfl #[.int .i64 a0_0, .int .i64 x20_2] (by rfl) rfl rfl (by (try simp only [List.map_toArray, List.map_cons, List.map_nil]); first | done | rfl | (simp only [List.length_drop, List.length_take]; rfl)) ?_
                  with_reducible refine (spec_l3Binds.calls a0_0 x20_2 t308 _ A13.out).mono ?_
                  rintro e w' ⟨rfl, ⟨nd, rfl⟩⟩
                  refine ⟨_, rfl, ?_⟩
                  refine hK.out _ _ ⟨(am_ BK307.out 0).trans rfl, (am_ BK307.out 1).trans rfl, (am_ BK307.out 2).trans rfl, (am_ BK305.out 0).trans rfl, (am_ BK305.out 1).trans rfl, (am_ BK305.out 2).trans rfl⟩ (fun hHeld => ?_)
                  clear hK K
                  refine norm_ (a' := ?_) ?_ ?_
                  rotate_left
                  · show Act.put _ (some 31) _ = _
                    simp only [Act.put, List.setIfInBounds_toArray, List.set_cons_zero, List.set_cons_succ, i64_w, i32_w]
                    rfl
                  refine pure_ (i := 7) (N := some 32) (v := ?_) (a' := ?_) #[true, true, true, true, true, true, true, true, false, false, false] rfl rfl (any_of HT_.out (by kernel_rfl)) (fun _ _ _ h => h) (Or.inl ⟨by rfl, ?_⟩) ?_ ?_
                  rotate_left
                  · intro w'
                    go_simp
                    with_reducible rfl
                  rotate_left
                  · simp only [Act.put, List.setIfInBounds_toArray, List.set_cons_zero, List.set_cons_succ, i64_w, i32_w]
                    rfl
                  refine one_ (i := 8) (N := some 33) #[true, true, true, true, true, true, true, true, true, false, false] rfl rfl (one_of HT_.out (by kernel_rfl)) (by decide) (fun K hK => ?_)
                  refine goes_ Try.func99 (by kernel_rfl) rfl #[.agg #[.int .i64 ((rd_T62 l0_2 x20_2).f0), .int .i64 ((rd_T62 l0_2 x20_2).f1), .slice A306_2 ((rd_T62 l0_2 x20_2).f2).length c306_2], .int .i64 (wrap64 (a1 + t308))] (by rfl) rfl rfl (by (try simp only [List.map_toArray, List.map_cons, List.map_nil]); first | done | rfl | (simp only [List.length_drop, List.length_take]; rfl)) ?_
                  with_reducible refine (ih k2 (by have := HJ2.out; have := HK2.out; omega) ((rd_T62 l0_2 x20_2).f0) ((rd_T62 l0_2 x20_2).f1) _ _ ((rd_T62 l0_2 x20_2).f2) (wrap64 (a1 + t308)) t309 _ ?side1 ?side2 A14.out).mono ?_
                  (case side1 => repeat (first | exact (Kd.C_below HR306_2.out (by repeat (first | (with_reducible first | exact HB.out | apply ai_ | apply ag_ | apply ah_ | refine af_ ?_ GE305.out | refine af_ ?_ GE307.out) | exact HB.out))) | (with_reducible refine Kd.C_alloc ?_ _) | (with_reducible refine Kd.C_drewN ?_ _) | (with_reducible refine Kd.C_drew ?_)))
                  (case side2 => exact HC306_2.out)
                  rintro e w20 ⟨rfl, hb⟩
                  refine ⟨_, rfl, ?_⟩
                  have n0_ := ab_ (blk_below (g := gb305) (o := .cells #[.int .i64 a0_0, .int .i64 a0_1, .slice (some ad306) l0_2.length c0_2] 62 (0, 0)) (by (with_reducible repeat (first | refine ac_ ?_ _ | refine ae_ ?_ | refine ad_ ?_ _)); exact BK305.out) hb)
                  have n1_ := ab_ (blk_below (g := gb307) (o := .cells #[.int .i64 ((rd_T62 l0_2 x20_2).f0), .int .i64 ((rd_T62 l0_2 x20_2).f1), .slice A306_2 ((rd_T62 l0_2 x20_2).f2).length c306_2] 62 (0, 0)) (by (with_reducible repeat (first | refine ac_ ?_ _ | refine ae_ ?_ | refine ad_ ?_ _)); exact BK307.out) hb)
                  have n2_ := ab_ (ar_ (by repeat (first | (with_reducible first | exact HB.out | apply ai_ | apply ag_ | apply ah_ | refine af_ ?_ GE305.out | refine af_ ?_ GE307.out) | exact HB.out)) hb)
                  clear BK305
                  clear BK307
                  clear HB
                  have BK305 := n0_
                  have BK307 := n1_
                  have HB := n2_
                  clear n0_ n1_ n2_
                  (try clear hb)
                  (try clear hb2)
                  (try clear hk)
                  (try clear hi)
                  refine hK.out _ _ ⟨(am_ BK307.out 0).trans rfl, (am_ BK307.out 1).trans rfl, (am_ BK307.out 2).trans rfl, (am_ BK305.out 0).trans rfl, (am_ BK305.out 1).trans rfl, (am_ BK305.out 2).trans rfl⟩ (fun hHeld => ?_)
                  clear hK K
                  refine norm_ (a' := ?_) ?_ ?_
                  rotate_left
                  · show Act.put _ (some 33) _ = _
                    simp only [Act.put, List.setIfInBounds_toArray, List.set_cons_zero, List.set_cons_succ, i64_w, i32_w]
                    rfl
                  refine pure_ (i := 9) (N := some 34) (v := ?_) (a' := ?_) #[true, true, true, true, true, true, true, true, true, true, false] rfl rfl (any_of HT_.out (by kernel_rfl)) (fun _ _ _ h => h) (Or.inl ⟨by rfl, ?_⟩) ?_ ?_
                  rotate_left
                  · intro w'
                    go_simp
                    with_reducible rfl
                  rotate_left
                  · simp only [Act.put, List.setIfInBounds_toArray, List.set_cons_zero, List.set_cons_succ, i64_w, i32_w]
                    rfl
                  refine pure_ (i := 10) (N := some 5) (v := ?_) (a' := ?_) #[true, true, true, true, true, true, true, true, true, true, true] rfl rfl (any_of HT_.out (by kernel_rfl)) (fun _ _ _ h => h) (Or.inl ⟨by rfl, ?_⟩) ?_ ?_
                  rotate_left
                  · intro w'
                    go_simp
                    with_reducible rfl
                  rotate_left
                  · simp only [Act.put, List.setIfInBounds_toArray, List.set_cons_zero, List.set_cons_succ, i64_w, i32_w]
                    rfl
                  refine done_ (done_of HT_.out (by kernel_rfl)) ?_
                  try go_wp2
                  go_roundg k2
                  case measure => have := HJ2.out; have := HK2.out; omega
                  case rel => exact ⟨(wrap64 (x5_2 + t309)), (wrap64 (x20_2 + 1)), (by first | rfl | (simp; done) | (simp [*]; done)), (by first | rfl | (simp; done) | (simp [*]; done)), H', ⟨by have := HJ2.out; have := HK2.out; omega⟩, ⟨by (with_reducible repeat (first | refine ac_ ?_ _ | refine ae_ ?_ | refine ad_ ?_ _)); exact BK305.out⟩, ⟨by repeat (first | (with_reducible first | exact HB.out | apply ai_ | apply ag_ | apply ah_ | refine af_ ?_ GE305.out | refine af_ ?_ GE307.out) | exact HB.out)⟩⟩
                · rw [if_neg c12] at H
                  exact absurd H (by simp)
              · rw [if_neg c11] at H
                exact absurd H (by simp)
            · rw [if_neg c10] at H
              have c10b0 : decide (x20_2 < (l0_2.length : Int)) = false := decide_eq_false c10
              clear c10
              obtain rfl := Option.some.inj H
              go_wp2
              go_ret
              exact ⟨by first | rfl | (simp [errW_none, errW_some] <;> rfl) | (simp [*, errW_none, errW_some] <;> rfl), by repeat (first | (with_reducible first | exact HB.out | apply ai_ | apply ag_ | apply ah_ | refine af_ ?_ GE305.out) | exact HB.out)⟩
end Go.Proofs.Ytgoiifpimpnlpaa.PAll

end

section
namespace Go.Proofs.Ytgoiifpimpnlpaa.PAll
open Go.RowKit Go.Proofs.YtgoiifpimpnlpaaW.PrintWords Go.Proofs.YtgoiifpimpnlpaaW.PrintLast Go.Proofs.YtgoiifpimpnlpaaW.PrintMore
attribute [local go_sem] max2_int min2_int max_two min_two max_three min_three max_four min_four   -- for this text's walks alone
set_option linter.unusedVariables false
set_option linter.unusedSimpArgs false
mutual
def spec_l3Shift.j0 : Nat → Int → Int → Bool → Int → Int → List (S62) → Int → Int → Option (Int × Int × (List (S62)))
  | 0, _, _, _, _, _, _, _, _ => none
  | k + 1, x1, x2, x23, x311000, x311001, x311002, x313000, x313001 => if x23 = true then (spec_l3Shift.j1 k x1 x2 x311000 x311001 x311002 x313000 (wrap64 (x313001 + x1))) else (spec_l3Shift.j1 k x1 x2 x311000 x311001 x311002 x313000 x313001)
def spec_l3Shift.j1 : Nat → Int → Int → Int → Int → List (S62) → Int → Int → Option (Int × Int × (List (S62)))
  | 0, _, _, _, _, _, _, _ => none
  | k + 1, x1, x2, x311000, x311001, x311002, x313000, x313001 => spec_l3Shift.l0 k x1 x2 x311002 (x311002.length : Int) 0 x311000 x311001 x311002 x313000 x313001 ([] : List (S62))
def spec_l3Shift.l0 : Nat → Int → Int → List (S62) → Int → Int → Int → Int → List (S62) → Int → Int → List (S62) → Option (Int × Int × (List (S62)))
  | 0, _, _, _, _, _, _, _, _, _, _, _ => none
  | k + 1, x1, x2, x30, x31, x32, x311000, x311001, x311002, x313000, x313001, x313002 => if x32 < x31 then (if 0 ≤ x32 then (if x32 < (x30.length : Int) then ((spec_l3Binds.f x311000 x32).bind fun t315 => ((spec_l3Shift.f k ((rd_T62 x30 x32).f0) ((rd_T62 x30 x32).f1) ((rd_T62 x30 x32).f2) x1 (wrap64 (x2 + t315))).bind fun bt316 => (if x313002.length < 3518437208883 then (spec_l3Shift.l0 k x1 x2 x30 x31 (wrap64 (x32 + 1)) x311000 x311001 x311002 x313000 x313001 (x313002 ++ [(⟨bt316.1, bt316.2.1, bt316.2.2⟩ : S62)])) else (none)))) else (none)) else (none)) else (some (x313000, x313001, x313002))
def spec_l3Shift.f : Nat → Int → Int → List (S62) → Int → Int → Option (Int × Int × (List (S62)))
  | 0, _, _, _, _, _ => none
  | k + 1, a0_0, a0_1, l0_2, a1, a2 => if a0_0 = 1 then (spec_l3Shift.j0 k a1 a2 (decide (a0_1 ≥ a2)) a0_0 a0_1 l0_2 a0_0 a0_1) else (spec_l3Shift.j0 k a1 a2 false a0_0 a0_1 l0_2 a0_0 a0_1)
end
theorem spec_l3Shift.mono_l : ∀ k, (∀ y0 y1 y2 y3 y4, LeO (spec_l3Shift.f k y0 y1 y2 y3 y4) (spec_l3Shift.f (k + 1) y0 y1 y2 y3 y4)) ∧ (∀ y0 y1 y2 y3 y4 y5 y6 y7, LeO (spec_l3Shift.j0 k y0 y1 y2 y3 y4 y5 y6 y7) (spec_l3Shift.j0 (k + 1) y0 y1 y2 y3 y4 y5 y6 y7)) ∧ (∀ y0 y1 y2 y3 y4 y5 y6, LeO (spec_l3Shift.j1 k y0 y1 y2 y3 y4 y5 y6) (spec_l3Shift.j1 (k + 1) y0 y1 y2 y3 y4 y5 y6)) ∧ (∀ y0 y1 y2 y3 y4 y5 y6 y7 y8 y9 y10, LeO (spec_l3Shift.l0 k y0 y1 y2 y3 y4 y5 y6 y7 y8 y9 y10) (spec_l3Shift.l0 (k + 1) y0 y1 y2 y3 y4 y5 y6 y7 y8 y9 y10))
  | 0 => ⟨fun _ _ _ _ _ r h => by simp [spec_l3Shift.f] at h, fun _ _ _ _ _ _ _ _ r h => by simp [spec_l3Shift.j0] at h, fun _ _ _ _ _ _ _ r h => by simp [spec_l3Shift.j1] at h, fun _ _ _ _ _ _ _ _ _ _ _ r h => by simp [spec_l3Shift.l0] at h⟩
  | k + 1 => by
    obtain ⟨ih0, ih1, ih2, ih3⟩ := spec_l3Shift.mono_l k
    refine ⟨?_, ?_, ?_, ?_⟩
    · intro y0 y1 y2 y3 y4
      unfold spec_l3Shift.f
      repeat' first
      | (with_reducible exact ih0 _ _ _ _ _)
      | (with_reducible exact ih1 _ _ _ _ _ _ _ _)
      | (with_reducible exact ih2 _ _ _ _ _ _ _)
      | (with_reducible exact ih3 _ _ _ _ _ _ _ _ _ _ _)
      | (with_reducible exact LeO.refl _)
      | (with_reducible exact LeO.none _)
      | (with_reducible refine LeO.ite ?_ ?_)
      | (with_reducible refine LeO.bind ?_ (fun _ => ?_))
      | exact ih0 _ _ _ _ _
      | exact ih1 _ _ _ _ _ _ _ _
      | exact ih2 _ _ _ _ _ _ _
      | exact ih3 _ _ _ _ _ _ _ _ _ _ _
      | exact LeO.none _
      | refine LeO.ite ?_ ?_
      | refine LeO.bind ?_ (fun _ => ?_)
    · intro y0 y1 y2 y3 y4 y5 y6 y7
      unfold spec_l3Shift.j0
      repeat' first
      | (with_reducible exact ih0 _ _ _ _ _)
      | (with_reducible exact ih1 _ _ _ _ _ _ _ _)
      | (with_reducible exact ih2 _ _ _ _ _ _ _)
      | (with_reducible exact ih3 _ _ _ _ _ _ _ _ _ _ _)
      | (with_reducible exact LeO.refl _)
      | (with_reducible exact LeO.none _)
      | (with_reducible refine LeO.ite ?_ ?_)
      | (with_reducible refine LeO.bind ?_ (fun _ => ?_))
      | exact ih0 _ _ _ _ _
      | exact ih1 _ _ _ _ _ _ _ _
      | exact ih2 _ _ _ _ _ _ _
      | exact ih3 _ _ _ _ _ _ _ _ _ _ _
      | exact LeO.none _
      | refine LeO.ite ?_ ?_
      | refine LeO.bind ?_ (fun _ => ?_)
    · intro y0 y1 y2 y3 y4 y5 y6
      unfold spec_l3Shift.j1
      repeat' first
      | (with_reducible exact ih0 _ _ _ _ _)
      | (with_reducible exact ih1 _ _ _ _ _ _ _ _)
      | (with_reducible exact ih2 _ _ _ _ _ _ _)
      | (with_reducible exact ih3 _ _ _ _ _ _ _ _ _ _ _)
      | (with_reducible exact LeO.refl _)
      | (with_reducible exact LeO.none _)
      | (with_reducible refine LeO.ite ?_ ?_)
      | (with_reducible refine LeO.bind ?_ (fun _ => ?_))
      | exact ih0 _ _ _ _ _
      | exact ih1 _ _ _ _ _ _ _ _
      | exact ih2 _ _ _ _ _ _ _
      | exact ih3 _ _ _ _ _ _ _ _ _ _ _
      | exact LeO.none _
      | refine LeO.ite ?_ ?_
      | refine LeO.bind ?_ (fun _ => ?_)
    · intro y0 y1 y2 y3 y4 y5 y6 y7 y8 y9 y10
      unfold spec_l3Shift.l0
      repeat' first
      | (with_reducible exact ih0 _ _ _ _ _)
      | (with_reducible exact ih1 _ _ _ _ _ _ _ _)
      | (with_reducible exact ih2 _ _ _ _ _ _ _)
      | (with_reducible exact ih3 _ _ _ _ _ _ _ _ _ _ _)
      | (with_reducible exact LeO.refl _)
      | (with_reducible exact LeO.none _)
      | (with_reducible refine LeO.ite ?_ ?_)
      | (with_reducible refine LeO.bind ?_ (fun _ => ?_))
      | exact ih0 _ _ _ _ _
      | exact ih1 _ _ _ _ _ _ _ _
      | exact ih2 _ _ _ _ _ _ _
      | exact ih3 _ _ _ _ _ _ _ _ _ _ _
      | exact LeO.none _
      | refine LeO.ite ?_ ?_
      | refine LeO.bind ?_ (fun _ => ?_)
theorem spec_l3Shift.mono : ∀ a0 a1 a2 a3 a4 k, LeO (spec_l3Shift.f k a0 a1 a2 a3 a4) (spec_l3Shift.f (k + 1) a0 a1 a2 a3 a4) := by
  intro a0 a1 a2 a3 a4 k
  obtain ⟨ih0, ih1, ih2, ih3⟩ := spec_l3Shift.mono_l k
  exact ih0 a0 a1 a2 a3 a4
def spec_l3Shift.T7 : Bool × List (List Nat × List Nat) := (true, [([], []), ([0], [0]), ([], []), ([], []), ([], []), ([], []), ([5], [5]), ([], []), ([6, 7], [6, 7]), ([4, 8], [4, 8]), ([2, 3, 9, 8], [2, 3, 9]), ([10], [10]), ([1, 11, 10], [1, 11]), ([0, 1, 2, 3, 4, 5, 6, 7, 8, 9, 10, 11, 12], []), ([13, 12, 12, 0, 1, 2, 3, 4, 5, 6, 7, 8, 9, 10, 11, 12], [12, 13])])
def spec_l3Shift.B7 : List Nat := [0, 1, 0, 0, 0, 0, 32, 0, 224, 496, 1020, 2044, 4095, 8191, 16383]
theorem spec_l3Shift.tab7 : rtab .any (opsOf Try.f127 7) = spec_l3Shift.T7 := by kernel_rfl
theorem spec_l3Shift.bits7 : waitsOk spec_l3Shift.T7.2 spec_l3Shift.B7 = true := by kernel_rfl
set_option maxHeartbeats 8000000 in
set_option maxRecDepth 100000 in
theorem spec_l3Shift.calls (k : Nat) : ∀ (a0_0 : Int) (a0_1 : Int) (A0_2 : Option Addr) (c0_2 : Nat) (l0_2 : List (S62)) (a1 : Int) (a2 : Int) (r1 : Int) (r2 : Int) (r3 : List (S62)) (w : World) (hr0_2 : Kd.C k62 w A0_2 l0_2.length l0_2) (hc0_2 : l0_2.length ≤ c0_2) (h : spec_l3Shift.f k a0_0 a0_1 l0_2 a1 a2 = some (r1, r2, r3)),
    Calls Try.prog 127 #[.agg #[.int .i64 a0_0, .int .i64 a0_1, .slice A0_2 l0_2.length c0_2], .int .i64 a1, .int .i64 a2] w fun e w' => ∃ v2_ : Value, e = .returned (.agg #[.int .i64 r1, .int .i64 r2, v2_]) ∧ Kd.R k62 62 w' w.heap.size (fun _ => True) v2_ r3 ∧ Below w.heap.size w w' := by
  induction k using Nat.strongRecOn with
  | _ k ih =>
  intro a0_0 a0_1 A0_2 c0_2 l0_2 a1 a2 r1 r2 r3 w hr0_2 hc0_2 h
  cases k with
  | zero => exact absurd h (by simp [spec_l3Shift.f])
  | succ k =>
  simp only [spec_l3Shift.f] at h
  have hu62 := Try.underlying62
  have HR0_2 := ab_ hr0_2
  have HC0_2 := ab_ hc0_2
  clear hr0_2 hc0_2
  have HB := ab_ (Below.refl w.heap.size w)
  have H : (if a0_0 = 1 then (spec_l3Shift.j0 k a1 a2 (decide (a0_1 ≥ a2)) a0_0 a0_1 l0_2 a0_0 a0_1) else (spec_l3Shift.j0 k a1 a2 false a0_0 a0_1 l0_2 a0_0 a0_1)) = some (r1, r2, r3) := h
  clear h
  have HC4 := ab_ H
  clear H
  go_enter Try.func127, Try.ntmps127
  go_upto_region 2 with (first | ((with_reducible refine gate_dst (N := 3) rfl ?_); refine box_event ?hg (N := 3) ?hd (cs := #[.int .i64 a0_0, .int .i64 a0_1, .slice A0_2 l0_2.length c0_2]) (t := 62) ?hr ?_; (case hd => rfl); (case hg => rfl); (case hr => first | (go_simp; done) | (go_simp; rfl)); intro gb310 hg w5 hbox hb; have n0_ := ab_ (ar_ (by repeat (first | (with_reducible first | exact HB.out | apply ai_ | apply ag_ | apply ah_) | exact HB.out)) hb); have n1_ := ab_ (hbox); have n2_ := ab_ ((by rw [hg]; exact (below_size (by repeat (first | (with_reducible first | exact HB.out | apply ai_ | apply ag_ | apply ah_) | exact HB.out))) : w.heap.size ≤ gb310)); have n3_ := ab_ ((by rw [hg]; exact (below_size (by repeat (first | (with_reducible first | exact HB.out | apply ai_ | apply ag_ | apply ah_) | exact HB.out))) : w.heap.size ≤ gb310)); clear HB; have HB := n0_; have BK310 := n1_; have GW310 := n2_; have GE310 := n3_; clear n0_ n1_ n2_ n3_; clear hb hbox hg) | ((with_reducible refine gate_dst (N := 6) rfl ?_); refine box_event ?hg (N := 6) ?hd (cs := #[.int .i64 0, .int .i64 0, .slice none 0 0]) (t := 62) ?hr ?_; (case hd => rfl); (case hg => rfl); (case hr => first | (go_simp; done) | (go_simp; rfl)); intro gb311 hg w6 hbox hb; have n0_ := ab_ (blk_below (g := gb310) (o := .cells #[.int .i64 a0_0, .int .i64 a0_1, .slice A0_2 l0_2.length c0_2] 62 (0, 0)) (by (with_reducible repeat (first | refine ac_ ?_ _ | refine ae_ ?_ | refine ad_ ?_ _)); exact BK310.out) hb); have n1_ := ab_ (ar_ (by repeat (first | (with_reducible first | exact HB.out | apply ai_ | apply ag_ | apply ah_ | refine af_ ?_ GE310.out) | exact HB.out)) hb); have n2_ := ab_ (hbox); have n3_ := ab_ ((by rw [hg]; exact (below_size (by repeat (first | (with_reducible first | exact HB.out | apply ai_ | apply ag_ | apply ah_ | refine af_ ?_ GE310.out) | exact HB.out))) : w.heap.size ≤ gb311)); have n4_ := ab_ ((by rw [hg]; exact (below_size (by repeat (first | (with_reducible first | exact HB.out | apply ai_ | apply ag_ | apply ah_ | refine af_ ?_ GE310.out) | exact HB.out))) : w.heap.size ≤ gb311)); have n5_ := ab_ ((by rw [hg]; exact ak_ (blk_lt (g := gb310) (o := .cells #[.int .i64 a0_0, .int .i64 a0_1, .slice A0_2 l0_2.length c0_2] 62 (0, 0)) (by (with_reducible repeat (first | refine ac_ ?_ _ | refine ae_ ?_ | refine ad_ ?_ _)); exact BK310.out)) : gb310 ≠ gb311)); have n6_ := ab_ ((by rw [hg]; exact Nat.ne_of_gt (blk_lt (g := gb310) (o := .cells #[.int .i64 a0_0, .int .i64 a0_1, .slice A0_2 l0_2.length c0_2] 62 (0, 0)) (by (with_reducible repeat (first | refine ac_ ?_ _ | refine ae_ ?_ | refine ad_ ?_ _)); exact BK310.out)) : gb311 ≠ gb310)); clear BK310; clear HB; have BK310 := n0_; have HB := n1_; have BK311 := n2_; have GW311 := n3_; have GE311 := n4_; have NB310_311 := n5_; have NB311_310 := n6_; clear n0_ n1_ n2_ n3_ n4_ n5_ n6_; clear hb hbox hg; have hnb7 := NB310_311.out; have hnc7 := NB311_310.out; have hcz8_0 : w6.cell? ⟨gb310, 0, none⟩ = some (.int .i64 a0_0) := (am_ BK310.out 0).trans rfl; have hcz8_1 : w6.cell? ⟨gb310, 1, none⟩ = some (.int .i64 a0_1) := (am_ BK310.out 1).trans rfl; have hcz8_2 : w6.cell? ⟨gb310, 2, none⟩ = some (.slice A0_2 l0_2.length c0_2) := (am_ BK310.out 2).trans rfl; have hfz8_0 := al_ BK310.out 0; have hfz8_1 := al_ BK310.out 1; have hfz8_2 := al_ BK310.out 2) | ((with_reducible refine gate_dst (N := 7) rfl ?_); refine box_event ?hg (N := 7) ?hd (cs := #[.int .i64 0, .int .i64 0, .slice none 0 0]) (t := 62) ?hr ?_; (case hd => rfl); (case hg => rfl); (case hr => first | (go_simp; done) | (go_simp; rfl)); intro gb312 hg w9 hbox hb; have n0_ := ab_ (blk_below (g := gb310) (o := .cells #[.int .i64 a0_0, .int .i64 a0_1, .slice A0_2 l0_2.length c0_2] 62 (0, 0)) (by (with_reducible repeat (first | refine ac_ ?_ _ | refine ae_ ?_ | refine ad_ ?_ _)); exact BK310.out) hb); have n1_ := ab_ (blk_below (g := gb311) (o := .cells #[.int .i64 0, .int .i64 0, .slice none 0 0] 62 (0, 0)) (by (with_reducible repeat (first | refine ac_ ?_ _ | refine ae_ ?_ | refine ad_ ?_ _)); exact BK311.out) hb); have n2_ := ab_ (ar_ (by repeat (first | (with_reducible first | exact HB.out | apply ai_ | apply ag_ | apply ah_ | refine af_ ?_ GE310.out | refine af_ ?_ GE311.out) | exact HB.out)) hb); have n3_ := ab_ (hbox); have n4_ := ab_ ((by rw [hg]; exact (below_size (by repeat (first | (with_reducible first | exact HB.out | apply ai_ | apply ag_ | apply ah_ | refine af_ ?_ GE310.out | refine af_ ?_ GE311.out) | exact HB.out))) : w.heap.size ≤ gb312)); have n5_ := ab_ ((by rw [hg]; exact (below_size (by repeat (first | (with_reducible first | exact HB.out | apply ai_ | apply ag_ | apply ah_ | refine af_ ?_ GE310.out | refine af_ ?_ GE311.out) | exact HB.out))) : w.heap.size ≤ gb312)); have n6_ := ab_ ((by rw [hg]; exact ak_ (blk_lt (g := gb310) (o := .cells #[.int .i64 a0_0, .int .i64 a0_1, .slice A0_2 l0_2.length c0_2] 62 (0, 0)) (by (with_reducible repeat (first | refine ac_ ?_ _ | refine ae_ ?_ | refine ad_ ?_ _)); exact BK310.out)) : gb310 ≠ gb312)); have n7_ := ab_ ((by rw [hg]; exact Nat.ne_of_gt (blk_lt (g := gb310) (o := .cells #[.int .i64 a0_0, .int .i64 a0_1, .slice A0_2 l0_2.length c0_2] 62 (0, 0)) (by (with_reducible repeat (first | refine ac_ ?_ _ | refine ae_ ?_ | refine ad_ ?_ _)); exact BK310.out)) : gb312 ≠ gb310)); have n8_ := ab_ ((by rw [hg]; exact ak_ (blk_lt (g := gb311) (o := .cells #[.int .i64 0, .int .i64 0, .slice none 0 0] 62 (0, 0)) (by (with_reducible repeat (first | refine ac_ ?_ _ | refine ae_ ?_ | refine ad_ ?_ _)); exact BK311.out)) : gb311 ≠ gb312)); have n9_ := ab_ ((by rw [hg]; exact Nat.ne_of_gt (blk_lt (g := gb311) (o := .cells #[.int .i64 0, .int .i64 0, .slice none 0 0] 62 (0, 0)) (by (with_reducible repeat (first | refine ac_ ?_ _ | refine ae_ ?_ | refine ad_ ?_ _)); exact BK311.out)) : gb312 ≠ gb311)); clear BK310; clear BK311; clear HB; have BK310 := n0_; have BK311 := n1_; have HB := n2_; have BK312 := n3_; have GW312 := n4_; have GE312 := n5_; have NB310_312 := n6_; have NB312_310 := n7_; have NB311_312 := n8_; have NB312_311 := n9_; clear n0_ n1_ n2_ n3_ n4_ n5_ n6_ n7_ n8_ n9_; clear hb hbox hg; have hnb10 := NB312_310.out; have hnc10 := NB310_312.out; have hnb11 := NB312_311.out; have hnc11 := NB311_312.out; have hcz12_0 : w9.cell? ⟨gb312, 0, none⟩ = some (.int .i64 0) := (am_ BK312.out 0).trans rfl; have hcz12_1 : w9.cell? ⟨gb312, 1, none⟩ = some (.int .i64 0) := (am_ BK312.out 1).trans rfl; have hcz12_2 : w9.cell? ⟨gb312, 2, none⟩ = some (.slice none 0 0) := (am_ BK312.out 2).trans rfl; have hfz12_0 := al_ BK312.out 0; have hfz12_1 := al_ BK312.out 1; have hfz12_2 := al_ BK312.out 2))
  (try simp only [Act.put, List.setIfInBounds_toArray, List.set_cons_zero, List.set_cons_succ])
  go_cut [23] (fun v23 wc => ∃ (kq : Nat) (x23_3 : Bool), v23 = .bool x23_3 ∧ Aside0 (spec_l3Shift.j0 kq a1 a2 x23_3 a0_0 a0_1 l0_2 a0_0 a0_1 = some (r1, r2, r3)) ∧ Aside0 (kq ≤ k) ∧ Aside0 (wc.heap[gb310]? = some (.cells #[.int .i64 a0_0, .int .i64 a0_1, (.slice A0_2 l0_2.length c0_2)] 62 (0, 0))) ∧ Aside0 (wc.heap[gb311]? = some (.cells #[.int .i64 0, .int .i64 0, (.slice none 0 0)] 62 (0, 0))) ∧ Aside0 (wc.heap[gb312]? = some (.cells #[.int .i64 a0_0, .int .i64 a0_1, (.slice none 0 0)] 62 (0, 0))) ∧ Aside0 (Below w.heap.size w wc))
  case first =>
    have H := HC4.out
    clear HC4
    by_cases c13 : a0_0 = 1
    · rw [if_pos c13] at H
      have c13b0 : (a0_0 == 1) = true := beq_iff_eq.mpr c13
      have c13b1 : (a0_0 != 1) = false := bne_eq_false_iff_eq.mpr c13
      clear c13
      (first | rw [c13b0] | (simp only [i64_w, i32_w]; rw [c13b0]) | skip)
      have H' := ab_ H
      clear H
      have hnb14 := NB310_311.out
      have hnc14 := NB311_310.out
      have hnb15 := NB310_312.out
      have hnc15 := NB312_310.out
      have hcz16_0 : w9.cell? ⟨gb310, 0, none⟩ = some (.int .i64 a0_0) := (am_ BK310.out 0).trans rfl
      have hcz16_1 : w9.cell? ⟨gb310, 1, none⟩ = some (.int .i64 a0_1) := (am_ BK310.out 1).trans rfl
      have hcz16_2 : w9.cell? ⟨gb310, 2, none⟩ = some (.slice A0_2 l0_2.length c0_2) := (am_ BK310.out 2).trans rfl
      have hfz16_0 := al_ BK310.out 0
      have hfz16_1 := al_ BK310.out 1
      have hfz16_2 := al_ BK310.out 2
      go_wp2
      go_meet
      case rel => exact ⟨_, (decide (a0_1 ≥ a2)), (by first | rfl | (simp; done) | (simp [*]; done)), H', ⟨by first | omega | exact Nat.le_refl _⟩, ⟨by (with_reducible repeat (first | refine ac_ ?_ _ | refine ae_ ?_ | refine ad_ ?_ _)); refine blk_far ?_ NB310_312.out _; (with_reducible repeat (first | refine ac_ ?_ _ | refine ae_ ?_ | refine ad_ ?_ _)); refine blk_far ?_ NB310_312.out _; (with_reducible repeat (first | refine ac_ ?_ _ | refine ae_ ?_ | refine ad_ ?_ _)); refine blk_far ?_ NB310_312.out _; (with_reducible repeat (first | refine ac_ ?_ _ | refine ae_ ?_ | refine ad_ ?_ _)); exact BK310.out⟩, ⟨by (with_reducible repeat (first | refine ac_ ?_ _ | refine ae_ ?_ | refine ad_ ?_ _)); refine blk_far ?_ NB311_312.out _; (with_reducible repeat (first | refine ac_ ?_ _ | refine ae_ ?_ | refine ad_ ?_ _)); refine blk_far ?_ NB311_312.out _; (with_reducible repeat (first | refine ac_ ?_ _ | refine ae_ ?_ | refine ad_ ?_ _)); refine blk_far ?_ NB311_312.out _; (with_reducible repeat (first | refine ac_ ?_ _ | refine ae_ ?_ | refine ad_ ?_ _)); exact BK311.out⟩, ⟨by (with_reducible repeat (first | refine ac_ ?_ _ | refine ae_ ?_ | refine ad_ ?_ _)); refine blk_put (cs := #[.int .i64 a0_0, .int .i64 a0_1, .slice none 0 0]) ?_ 2 _ rfl; (with_reducible repeat (first | refine ac_ ?_ _ | refine ae_ ?_ | refine ad_ ?_ _)); refine blk_put (cs := #[.int .i64 a0_0, .int .i64 0, .slice none 0 0]) ?_ 1 _ rfl; (with_reducible repeat (first | refine ac_ ?_ _ | refine ae_ ?_ | refine ad_ ?_ _)); refine blk_put (cs := #[.int .i64 0, .int .i64 0, .slice none 0 0]) ?_ 0 _ rfl; (with_reducible repeat (first | refine ac_ ?_ _ | refine ae_ ?_ | refine ad_ ?_ _)); exact BK312.out⟩, ⟨by repeat (first | (with_reducible first | exact HB.out | apply ai_ | apply ag_ | apply ah_ | refine af_ ?_ GE310.out | refine af_ ?_ GE311.out | refine af_ ?_ GE312.out) | exact HB.out)⟩⟩
    · rw [if_neg c13] at H
      have c13b0 : (a0_0 == 1) = false := beq_eq_false_iff_ne.mpr c13
      have c13b1 : (a0_0 != 1) = true := bne_iff_ne.mpr c13
      (first | rw [c13b0] | (simp only [i64_w, i32_w]; rw [c13b0]) | skip)
      have H' := ab_ H
      clear H
      have hnb17 := NB310_311.out
      have hnc17 := NB311_310.out
      have hnb18 := NB310_312.out
      have hnc18 := NB312_310.out
      have hcz19_0 : w9.cell? ⟨gb310, 0, none⟩ = some (.int .i64 a0_0) := (am_ BK310.out 0).trans rfl
      have hcz19_1 : w9.cell? ⟨gb310, 1, none⟩ = some (.int .i64 a0_1) := (am_ BK310.out 1).trans rfl
      have hcz19_2 : w9.cell? ⟨gb310, 2, none⟩ = some (.slice A0_2 l0_2.length c0_2) := (am_ BK310.out 2).trans rfl
      have hfz19_0 := al_ BK310.out 0
      have hfz19_1 := al_ BK310.out 1
      have hfz19_2 := al_ BK310.out 2
      go_wp2
      go_meet
      case rel => exact ⟨_, (false), (by first | rfl | (simp; done) | (simp [*]; done)), H', ⟨by first | omega | exact Nat.le_refl _⟩, ⟨by (with_reducible repeat (first | refine ac_ ?_ _ | refine ae_ ?_ | refine ad_ ?_ _)); refine blk_far ?_ NB310_312.out _; (with_reducible repeat (first | refine ac_ ?_ _ | refine ae_ ?_ | refine ad_ ?_ _)); refine blk_far ?_ NB310_312.out _; (with_reducible repeat (first | refine ac_ ?_ _ | refine ae_ ?_ | refine ad_ ?_ _)); refine blk_far ?_ NB310_312.out _; (with_reducible repeat (first | refine ac_ ?_ _ | refine ae_ ?_ | refine ad_ ?_ _)); exact BK310.out⟩, ⟨by (with_reducible repeat (first | refine ac_ ?_ _ | refine ae_ ?_ | refine ad_ ?_ _)); refine blk_far ?_ NB311_312.out _; (with_reducible repeat (first | refine ac_ ?_ _ | refine ae_ ?_ | refine ad_ ?_ _)); refine blk_far ?_ NB311_312.out _; (with_reducible repeat (first | refine ac_ ?_ _ | refine ae_ ?_ | refine ad_ ?_ _)); refine blk_far ?_ NB311_312.out _; (with_reducible repeat (first | refine ac_ ?_ _ | refine ae_ ?_ | refine ad_ ?_ _)); exact BK311.out⟩, ⟨by (with_reducible repeat (first | refine ac_ ?_ _ | refine ae_ ?_ | refine ad_ ?_ _)); refine blk_put (cs := #[.int .i64 a0_0, .int .i64 a0_1, .slice none 0 0]) ?_ 2 _ rfl; (with_reducible repeat (first | refine ac_ ?_ _ | refine ae_ ?_ | refine ad_ ?_ _)); refine blk_put (cs := #[.int .i64 a0_0, .int .i64 0, .slice none 0 0]) ?_ 1 _ rfl; (with_reducible repeat (first | refine ac_ ?_ _ | refine ae_ ?_ | refine ad_ ?_ _)); refine blk_put (cs := #[.int .i64 0, .int .i64 0, .slice none 0 0]) ?_ 0 _ rfl; (with_reducible repeat (first | refine ac_ ?_ _ | refine ae_ ?_ | refine ad_ ?_ _)); exact BK312.out⟩, ⟨by repeat (first | (with_reducible first | exact HB.out | apply ai_ | apply ag_ | apply ah_ | refine af_ ?_ GE310.out | refine af_ ?_ GE311.out | refine af_ ?_ GE312.out) | exact HB.out)⟩⟩
  case rest =>
    clear HC4
    try clear c1
    try clear p2
    try clear c7
    try clear c10
    try clear c11
    try clear c12
    try clear c13
    try clear c13b0
    try clear c13b1
    try clear c14
    try clear c15
    try clear c17
    try clear c18
    try clear hcz12_0
    try clear hcz12_1
    try clear hcz12_2
    try clear hcz16_0
    try clear hcz16_1
    try clear hcz16_2
    try clear hcz19_0
    try clear hcz19_1
    try clear hcz19_2
    try clear hcz8_0
    try clear hcz8_1
    try clear hcz8_2
    try clear hfz12_0
    try clear hfz12_1
    try clear hfz12_2
    try clear hfz16_0
    try clear hfz16_1
    try clear hfz16_2
    try clear hfz19_0
    try clear hfz19_1
    try clear hfz19_2
    try clear hfz8_0
    try clear hfz8_1
    try clear hfz8_2
    obtain ⟨kq, x23_3, rfl, HA, HJ3, BK310, BK311, BK312, HB⟩ := hcut
    cases kq with
    | zero => exact absurd HA.out (by simp [spec_l3Shift.j0])
    | succ kj3 =>
      have H := HA.out
      clear HA
      simp only [spec_l3Shift.j0] at H
      have HC20 := ab_ H
      clear H
      go_upto_if 23 with (fail)
      go_cut [] (fun wc => ∃ (kq : Nat) (x313001_19 : Int), Aside0 (spec_l3Shift.j1 kq a1 a2 a0_0 a0_1 l0_2 a0_0 x313001_19 = some (r1, r2, r3)) ∧ Aside0 (kq ≤ kj3) ∧ Aside0 (wc.heap[gb310]? = some (.cells #[.int .i64 a0_0, .int .i64 a0_1, (.slice A0_2 l0_2.length c0_2)] 62 (0, 0))) ∧ Aside0 (wc.heap[gb311]? = some (.cells #[.int .i64 0, .int .i64 0, (.slice none 0 0)] 62 (0, 0))) ∧ Aside0 (wc.heap[gb312]? = some (.cells #[.int .i64 a0_0, .int .i64 x313001_19, (.slice none 0 0)] 62 (0, 0))) ∧ Aside0 (Below w.heap.size w wc))
      case first =>
        have H := HC20.out
        clear HC20
        by_cases c21 : x23_3 = true
        · subst c21
          have H1 : (spec_l3Shift.j1 kj3 a1 a2 a0_0 a0_1 l0_2 a0_0 (wrap64 (a0_1 + a1))) = some (r1, r2, r3) := by rw [if_pos rfl] at H; exact H
          clear H
          have H := H1
          clear H1
          have H' := ab_ H
          clear H
          have hnb22 := NB312_310.out
          have hnc22 := NB310_312.out
          have hnb23 := NB312_311.out
          have hnc23 := NB311_312.out
          have hcz24_0 : wc.cell? ⟨gb312, 0, none⟩ = some (.int .i64 a0_0) := (am_ BK312.out 0).trans rfl
          have hcz24_1 : wc.cell? ⟨gb312, 1, none⟩ = some (.int .i64 a0_1) := (am_ BK312.out 1).trans rfl
          have hcz24_2 : wc.cell? ⟨gb312, 2, none⟩ = some (.slice none 0 0) := (am_ BK312.out 2).trans rfl
          have hfz24_0 := al_ BK312.out 0
          have hfz24_1 := al_ BK312.out 1
          have hfz24_2 := al_ BK312.out 2
          go_wp2
          go_meet
          case rel => exact ⟨_, (wrap64 (a0_1 + a1)), H', ⟨by have := HJ3.out; first | omega | exact Nat.le_refl _⟩, ⟨by (with_reducible repeat (first | refine ac_ ?_ _ | refine ae_ ?_ | refine ad_ ?_ _)); refine blk_far ?_ NB310_312.out _; (with_reducible repeat (first | refine ac_ ?_ _ | refine ae_ ?_ | refine ad_ ?_ _)); exact BK310.out⟩, ⟨by (with_reducible repeat (first | refine ac_ ?_ _ | refine ae_ ?_ | refine ad_ ?_ _)); refine blk_far ?_ NB311_312.out _; (with_reducible repeat (first | refine ac_ ?_ _ | refine ae_ ?_ | refine ad_ ?_ _)); exact BK311.out⟩, ⟨by (with_reducible repeat (first | refine ac_ ?_ _ | refine ae_ ?_ | refine ad_ ?_ _)); refine blk_put (cs := #[.int .i64 a0_0, .int .i64 a0_1, .slice none 0 0]) ?_ 1 _ rfl; (with_reducible repeat (first | refine ac_ ?_ _ | refine ae_ ?_ | refine ad_ ?_ _)); exact BK312.out⟩, ⟨by repeat (first | (with_reducible first | exact HB.out | apply ai_ | apply ag_ | apply ah_ | refine af_ ?_ GE310.out | refine af_ ?_ GE311.out | refine af_ ?_ GE312.out) | exact HB.out)⟩⟩
        · replace c21 := Bool.eq_false_iff.mpr c21
          subst c21
          have H1 : (spec_l3Shift.j1 kj3 a1 a2 a0_0 a0_1 l0_2 a0_0 a0_1) = some (r1, r2, r3) := by rw [if_neg (show ¬ (false = true) by decide)] at H; exact H
          clear H
          have H := H1
          clear H1
          have H' := ab_ H
          clear H
          go_wp2
          go_meet
          case rel => exact ⟨_, (a0_1), H', ⟨by have := HJ3.out; first | omega | exact Nat.le_refl _⟩, ⟨by (with_reducible repeat (first | refine ac_ ?_ _ | refine ae_ ?_ | refine ad_ ?_ _)); exact BK310.out⟩, ⟨by (with_reducible repeat (first | refine ac_ ?_ _ | refine ae_ ?_ | refine ad_ ?_ _)); exact BK311.out⟩, ⟨by (with_reducible repeat (first | refine ac_ ?_ _ | refine ae_ ?_ | refine ad_ ?_ _)); exact BK312.out⟩, ⟨by repeat (first | (with_reducible first | exact HB.out | apply ai_ | apply ag_ | apply ah_ | refine af_ ?_ GE310.out | refine af_ ?_ GE311.out | refine af_ ?_ GE312.out) | exact HB.out)⟩⟩
      case rest =>
        clear HC20
        try clear c1
        try clear c2
        try clear p2
        try clear p6
        try clear c7
        try clear c10
        try clear c11
        try clear c12
        try clear c13
        try clear c13b0
        try clear c13b1
        try clear c14
        try clear c15
        try clear c17
        try clear c18
        try clear c21
        try clear c22
        try clear c23
        try clear hcz12_0
        try clear hcz12_1
        try clear hcz12_2
        try clear hcz16_0
        try clear hcz16_1
        try clear hcz16_2
        try clear hcz19_0
        try clear hcz19_1
        try clear hcz19_2
        try clear hcz24_0
        try clear hcz24_1
        try clear hcz24_2
        try clear hcz8_0
        try clear hcz8_1
        try clear hcz8_2
        try clear hfz12_0
        try clear hfz12_1
        try clear hfz12_2
        try clear hfz16_0
        try clear hfz16_1
        try clear hfz16_2
        try clear hfz19_0
        try clear hfz19_1
        try clear hfz19_2
        try clear hfz24_0
        try clear hfz24_1
        try clear hfz24_2
        try clear hfz8_0
        try clear hfz8_1
        try clear hfz8_2
        try clear p2
        obtain ⟨kq, x313001_19, HA, HJ19, BK310, BK311, BK312, HB⟩ := hcut
        cases kq with
        | zero => exact absurd HA.out (by simp [spec_l3Shift.j1])
        | succ kj19 =>
          have H := HA.out
          clear HA
          simp only [spec_l3Shift.j1] at H
          have H' := ab_ H
          clear H
          have hnb25 := NB310_311.out
          have hnc25 := NB311_310.out
          have hnb26 := NB310_312.out
          have hnc26 := NB312_310.out
          have hcz27_0 : wc.cell? ⟨gb310, 0, none⟩ = some (.int .i64 a0_0) := (am_ BK310.out 0).trans rfl
          have hcz27_1 : wc.cell? ⟨gb310, 1, none⟩ = some (.int .i64 a0_1) := (am_ BK310.out 1).trans rfl
          have hcz27_2 : wc.cell? ⟨gb310, 2, none⟩ = some (.slice A0_2 l0_2.length c0_2) := (am_ BK310.out 2).trans rfl
          have hfz27_0 := al_ BK310.out 0
          have hfz27_1 := al_ BK310.out 1
          have hfz27_2 := al_ BK310.out 2
          go_wp2
          go_loopg [32] kj19 (fun kq v32 w' => ∃ (x32_3 : Int) (x313002_3 : List (S62)) (u313002 : Value), v32 = .int .i64 x32_3 ∧ Aside0 (spec_l3Shift.l0 kq a1 a2 l0_2 (l0_2.length : Int) x32_3 a0_0 a0_1 l0_2 a0_0 x313001_19 x313002_3 = some (r1, r2, r3)) ∧ Aside0 (kq ≤ kj19) ∧ Aside0 (Kd.R k62 62 w' w.heap.size (fun k_ => k_ ≠ gb310 ∧ k_ ≠ gb311 ∧ k_ ≠ gb312) u313002 x313002_3) ∧ Aside0 (w'.heap[gb310]? = some (.cells #[.int .i64 a0_0, .int .i64 a0_1, (.slice A0_2 l0_2.length c0_2)] 62 (0, 0))) ∧ Aside0 (w'.heap[gb311]? = some (.cells #[.int .i64 0, .int .i64 0, (.slice none 0 0)] 62 (0, 0))) ∧ Aside0 (w'.heap[gb312]? = some (.cells #[.int .i64 a0_0, .int .i64 x313001_19, u313002] 62 (0, 0))) ∧ Aside0 (Below w.heap.size w w'))
          case atStart => exact ⟨(0), (([] : List (S62))), (.slice none 0 0), (by first | rfl | (simp; done) | (simp [*]; done)), H', ⟨Nat.le_refl _⟩, ⟨by first | exact Kd.R_nil _ _ _ _ _ | exact Kd.N_nil _ _ _ _ _ | exact Kd.V_nil _ _ _ _ _ | exact Kd.Q_nil _ _ _ _ _ | exact Kd.S_nil _ _ _ _ _⟩, ⟨by (with_reducible repeat (first | refine ac_ ?_ _ | refine ae_ ?_ | refine ad_ ?_ _)); exact BK310.out⟩, ⟨by (with_reducible repeat (first | refine ac_ ?_ _ | refine ae_ ?_ | refine ad_ ?_ _)); exact BK311.out⟩, ⟨by (with_reducible repeat (first | refine ac_ ?_ _ | refine ae_ ?_ | refine ad_ ?_ _)); exact BK312.out⟩, ⟨by repeat (first | (with_reducible first | exact HB.out | apply ai_ | apply ag_ | apply ah_ | refine af_ ?_ GE310.out | refine af_ ?_ GE311.out | refine af_ ?_ GE312.out) | exact HB.out)⟩⟩
          case round =>
            clear H'
            try clear c1
            try clear c2
            try clear p2
            try clear p6
            try clear c7
            try clear c10
            try clear c11
            try clear c12
            try clear c13
            try clear c13b0
            try clear c13b1
            try clear c14
            try clear c15
            try clear c17
            try clear c18
            try clear c21
            try clear c22
            try clear c23
            try clear c25
            try clear c26
            try clear hcz12_0
            try clear hcz12_1
            try clear hcz12_2
            try clear hcz16_0
            try clear hcz16_1
            try clear hcz16_2
            try clear hcz19_0
            try clear hcz19_1
            try clear hcz19_2
            try clear hcz24_0
            try clear hcz24_1
            try clear hcz24_2
            try clear hcz27_0
            try clear hcz27_1
            try clear hcz27_2
            try clear hcz8_0
            try clear hcz8_1
            try clear hcz8_2
            try clear hfz12_0
            try clear hfz12_1
            try clear hfz12_2
            try clear hfz16_0
            try clear hfz16_1
            try clear hfz16_2
            try clear hfz19_0
            try clear hfz19_1
            try clear hfz19_2
            try clear hfz24_0
            try clear hfz24_1
            try clear hfz24_2
            try clear hfz27_0
            try clear hfz27_1
            try clear hfz27_2
            try clear hfz8_0
            try clear hfz8_1
            try clear hfz8_2
            try clear p2
            try clear p6
            obtain ⟨x32_3, x313002_3, u313002, rfl, HA, HK3, HO_313002, BK310, BK311, BK312, HB⟩ := hrel
            cases gk with
            | zero => exact absurd HA.out (by simp [spec_l3Shift.l0])
            | succ k3 =>
              have H := HA.out
              clear HA
              simp only [spec_l3Shift.l0] at H
              by_cases c28 : x32_3 < (l0_2.length : Int)
              · rw [if_pos c28] at H
                have c28b0 : decide (x32_3 < (l0_2.length : Int)) = true := aq_ c28
                clear c28
                by_cases c29 : 0 ≤ x32_3
                · rw [if_pos c29] at H
                  have c29b0 : decide (0 ≤ x32_3) = true := aq_ c29
                  clear c29
                  by_cases c30 : x32_3 < (l0_2.length : Int)
                  · rw [if_pos c30] at H
                    have c30b0 : decide (x32_3 < (l0_2.length : Int)) = true := aq_ c30
                    clear c30
                    replace H := Option.bind_eq_some_iff.mp H
                    obtain ⟨t315, A310, H⟩ := H
                    replace H : ((spec_l3Shift.f k3 ((rd_T62 l0_2 x32_3).f0) ((rd_T62 l0_2 x32_3).f1) ((rd_T62 l0_2 x32_3).f2) a1 (wrap64 (a2 + t315))).bind fun bt316 => (if x313002_3.length < 3518437208883 then (spec_l3Shift.l0 k3 a1 a2 l0_2 (l0_2.length : Int) (wrap64 (x32_3 + 1)) a0_0 a0_1 l0_2 a0_0 x313001_19 (x313002_3 ++ [(⟨bt316.1, bt316.2.1, bt316.2.2⟩ : S62)])) else (none))) = some (r1, r2, r3) := H
                    have A31 := ab_ A310
                    clear A310
                    replace H := Option.bind_eq_some_iff.mp H
                    obtain ⟨⟨t316, t317, t318⟩, A320, H⟩ := H
                    replace H : (if x313002_3.length < 3518437208883 then (spec_l3Shift.l0 k3 a1 a2 l0_2 (l0_2.length : Int) (wrap64 (x32_3 + 1)) a0_0 a0_1 l0_2 a0_0 x313001_19 (x313002_3 ++ [(⟨t316, t317, t318⟩ : S62)])) else (none)) = some (r1, r2, r3) := H
                    have A32 := ab_ A320
                    clear A320
                    by_cases c33 : x313002_3.length < 3518437208883
                    · rw [if_pos c33] at H
                      have LMc33 := ab_ c33
                      clear c33
                      obtain ⟨y321, hy321⟩ : ∃ y_ : List (S62), y_ = (x313002_3 ++ [(⟨t316, t317, t318⟩ : S62)]) := ⟨_, rfl⟩
                      replace H : (spec_l3Shift.l0 k3 a1 a2 l0_2 (l0_2.length : Int) (wrap64 (x32_3 + 1)) a0_0 a0_1 l0_2 a0_0 x313001_19 y321) = some (r1, r2, r3) := by first | (rw [hy321]; with_reducible exact H) | (have H2_ := (Option.bind_some _ _).symm.trans H; rw [hy321]; with_reducible exact H2_) | (have H2_ := (Option.bind_some _ _).symm.trans H; with_reducible exact H2_) | with_reducible exact H | (rw [hy321]; exact H) | exact H
                      have Ny321 := ab_ hy321
                      clear hy321
                      have H' := ab_ H
                      clear H
                      have p313 : 0 ≤ (x32_3 : Int) := of_decide_eq_true (by first | (with_reducible assumption) | assumption)
                      have q313 : x32_3 < (l0_2.length : Int) := of_decide_eq_true (by first | (with_reducible assumption) | assumption)
                      obtain ⟨ad313, A313_2, c313_2, e313, hx313_0, hx313_1, hx313_2, hl313_2, hi313_2⟩ := at_T62 HR0_2.out x32_3 p313 q313
                      cases e313
                      replace hx313_0 := (HB.out.cell (aa_ w _ hx313_0)).trans hx313_0
                      replace hx313_1 := (HB.out.cell (aa_ w _ hx313_1)).trans hx313_1
                      replace hx313_2 := (HB.out.cell (aa_ w _ hx313_2)).trans hx313_2
                      have HR313_2 := ab_ hi313_2
                      have HC313_2 := ab_ hl313_2
                      clear hi313_2 hl313_2
                      replace p313 := eq_true p313
                      replace q313 := eq_true q313
                      try go_wp2_with (first | ((with_reducible refine gate_dst (N := 9) rfl ?_); refine box_event ?hg (N := 9) ?hd (cs := #[.int .i64 0, .int .i64 0, .slice none 0 0]) (t := 62) ?hr ?_; (case hd => rfl); (case hg => rfl); (case hr => first | (go_simp; done) | (go_simp; rfl)); intro gb314 hg w34 hbox hb; have n0_ := ab_ (Kd.R_below (Kd.R_elderB (by (with_reducible repeat (first | apply an_ | apply ao_ | apply ap_)); exact HO_313002.out) gb314 (Nat.le_of_eq hg.symm)) hb); have n1_ := ab_ (blk_below (g := gb310) (o := .cells #[.int .i64 a0_0, .int .i64 a0_1, .slice (some ad313) l0_2.length c0_2] 62 (0, 0)) (by (with_reducible repeat (first | refine ac_ ?_ _ | refine ae_ ?_ | refine ad_ ?_ _)); exact BK310.out) hb); have n2_ := ab_ (blk_below (g := gb311) (o := .cells #[.int .i64 0, .int .i64 0, .slice none 0 0] 62 (0, 0)) (by (with_reducible repeat (first | refine ac_ ?_ _ | refine ae_ ?_ | refine ad_ ?_ _)); exact BK311.out) hb); have n3_ := ab_ (blk_below (g := gb312) (o := .cells #[.int .i64 a0_0, .int .i64 x313001_19, u313002] 62 (0, 0)) (by (with_reducible repeat (first | refine ac_ ?_ _ | refine ae_ ?_ | refine ad_ ?_ _)); exact BK312.out) hb); have n4_ := ab_ (ar_ (by repeat (first | (with_reducible first | exact HB.out | apply ai_ | apply ag_ | apply ah_ | refine af_ ?_ GE310.out | refine af_ ?_ GE311.out | refine af_ ?_ GE312.out) | exact HB.out)) hb); have n5_ := ab_ (hbox); have n6_ := ab_ ((by rw [hg]; exact (below_size (by repeat (first | (with_reducible first | exact HB.out | apply ai_ | apply ag_ | apply ah_ | refine af_ ?_ GE310.out | refine af_ ?_ GE311.out | refine af_ ?_ GE312.out) | exact HB.out))) : w.heap.size ≤ gb314)); have n7_ := ab_ ((by rw [hg]; exact (below_size (by repeat (first | (with_reducible first | exact HB.out | apply ai_ | apply ag_ | apply ah_ | refine af_ ?_ GE310.out | refine af_ ?_ GE311.out | refine af_ ?_ GE312.out) | exact HB.out))) : w.heap.size ≤ gb314)); have n8_ := ab_ ((by rw [hg]; exact ak_ (blk_lt (g := gb310) (o := .cells #[.int .i64 a0_0, .int .i64 a0_1, .slice (some ad313) l0_2.length c0_2] 62 (0, 0)) (by (with_reducible repeat (first | refine ac_ ?_ _ | refine ae_ ?_ | refine ad_ ?_ _)); exact BK310.out)) : gb310 ≠ gb314)); have n9_ := ab_ ((by rw [hg]; exact Nat.ne_of_gt (blk_lt (g := gb310) (o := .cells #[.int .i64 a0_0, .int .i64 a0_1, .slice (some ad313) l0_2.length c0_2] 62 (0, 0)) (by (with_reducible repeat (first | refine ac_ ?_ _ | refine ae_ ?_ | refine ad_ ?_ _)); exact BK310.out)) : gb314 ≠ gb310)); have n10_ := ab_ ((by rw [hg]; exact ak_ (blk_lt (g := gb311) (o := .cells #[.int .i64 0, .int .i64 0, .slice none 0 0] 62 (0, 0)) (by (with_reducible repeat (first | refine ac_ ?_ _ | refine ae_ ?_ | refine ad_ ?_ _)); exact BK311.out)) : gb311 ≠ gb314)); have n11_ := ab_ ((by rw [hg]; exact Nat.ne_of_gt (blk_lt (g := gb311) (o := .cells #[.int .i64 0, .int .i64 0, .slice none 0 0] 62 (0, 0)) (by (with_reducible repeat (first | refine ac_ ?_ _ | refine ae_ ?_ | refine ad_ ?_ _)); exact BK311.out)) : gb314 ≠ gb311)); have n12_ := ab_ ((by rw [hg]; exact ak_ (blk_lt (g := gb312) (o := .cells #[.int .i64 a0_0, .int .i64 x313001_19, u313002] 62 (0, 0)) (by (with_reducible repeat (first | refine ac_ ?_ _ | refine ae_ ?_ | refine ad_ ?_ _)); exact BK312.out)) : gb312 ≠ gb314)); have n13_ := ab_ ((by rw [hg]; exact Nat.ne_of_gt (blk_lt (g := gb312) (o := .cells #[.int .i64 a0_0, .int .i64 x313001_19, u313002] 62 (0, 0)) (by (with_reducible repeat (first | refine ac_ ?_ _ | refine ae_ ?_ | refine ad_ ?_ _)); exact BK312.out)) : gb314 ≠ gb312)); clear HO_313002; clear BK310; clear BK311; clear BK312; clear HB; have HO_313002 := n0_; have BK310 := n1_; have BK311 := n2_; have BK312 := n3_; have HB := n4_; have BK314 := n5_; have GW314 := n6_; have GE314 := n7_; have NB310_314 := n8_; have NB314_310 := n9_; have NB311_314 := n10_; have NB314_311 := n11_; have NB312_314 := n12_; have NB314_312 := n13_; clear n0_ n1_ n2_ n3_ n4_ n5_ n6_ n7_ n8_ n9_ n10_ n11_ n12_ n13_; clear hb hbox hg; have hnb35 := NB314_310.out; have hnc35 := NB310_314.out; have hnb36 := NB314_311.out; have hnc36 := NB311_314.out; have hnb37 := NB314_312.out; have hnc37 := NB312_314.out; have hcz38_0 : w34.cell? ⟨gb314, 0, none⟩ = some (.int .i64 0) := (am_ BK314.out 0).trans rfl; have hcz38_1 : w34.cell? ⟨gb314, 1, none⟩ = some (.int .i64 0) := (am_ BK314.out 1).trans rfl; have hcz38_2 : w34.cell? ⟨gb314, 2, none⟩ = some (.slice none 0 0) := (am_ BK314.out 2).trans rfl; have hfz38_0 := al_ BK314.out 0; have hfz38_1 := al_ BK314.out 1; have hfz38_2 := al_ BK314.out 2))
                      have n0_ : Aside0 (Kd.R k62 62 (((w34.setCell ⟨gb314, 0, none⟩ (.int .i64 ((rd_T62 l0_2 x32_3).f0))).setCell ⟨gb314, 1, none⟩ (.int .i64 ((rd_T62 l0_2 x32_3).f1))).setCell ⟨gb314, 2, none⟩ (.slice A313_2 ((rd_T62 l0_2 x32_3).f2).length c313_2)) w.heap.size (fun k_ => k_ ≠ gb310 ∧ k_ ≠ gb311 ∧ k_ ≠ gb312 ∧ k_ ≠ gb314) u313002 x313002_3) := ⟨by (with_reducible repeat (first | apply an_ | apply ao_ | apply ap_)); exact Kd.R_mono (Kd.R_far (p := ⟨gb314, 2, none⟩) (Kd.R_far (p := ⟨gb314, 1, none⟩) (Kd.R_far (p := ⟨gb314, 0, none⟩) (Kd.R_mono HO_313002.out (fun k_ hk => (⟨hk, hk.2⟩ : _ ∧ k_ ≠ gb314))) (fun _ hk => hk.2) (.int .i64 ((rd_T62 l0_2 x32_3).f0))) (fun _ hk => hk.2) (.int .i64 ((rd_T62 l0_2 x32_3).f1))) (fun _ hk => hk.2) (.slice A313_2 ((rd_T62 l0_2 x32_3).f2).length c313_2)) (fun _ hk => ⟨hk.1.1.1, ⟨hk.1.1.2.1, ⟨hk.1.1.2.2, hk.1.2⟩⟩⟩)⟩
                      have n1_ : Aside0 ((((w34.setCell ⟨gb314, 0, none⟩ (.int .i64 ((rd_T62 l0_2 x32_3).f0))).setCell ⟨gb314, 1, none⟩ (.int .i64 ((rd_T62 l0_2 x32_3).f1))).setCell ⟨gb314, 2, none⟩ (.slice A313_2 ((rd_T62 l0_2 x32_3).f2).length c313_2)).heap[gb310]? = some (.cells #[.int .i64 a0_0, .int .i64 a0_1, .slice (some ad313) l0_2.length c0_2] 62 (0, 0))) := ⟨by (with_reducible repeat (first | refine ac_ ?_ _ | refine ae_ ?_ | refine ad_ ?_ _)); refine blk_far ?_ NB310_314.out _; (with_reducible repeat (first | refine ac_ ?_ _ | refine ae_ ?_ | refine ad_ ?_ _)); refine blk_far ?_ NB310_314.out _; (with_reducible repeat (first | refine ac_ ?_ _ | refine ae_ ?_ | refine ad_ ?_ _)); refine blk_far ?_ NB310_314.out _; (with_reducible repeat (first | refine ac_ ?_ _ | refine ae_ ?_ | refine ad_ ?_ _)); exact BK310.out⟩
                      have n2_ : Aside0 ((((w34.setCell ⟨gb314, 0, none⟩ (.int .i64 ((rd_T62 l0_2 x32_3).f0))).setCell ⟨gb314, 1, none⟩ (.int .i64 ((rd_T62 l0_2 x32_3).f1))).setCell ⟨gb314, 2, none⟩ (.slice A313_2 ((rd_T62 l0_2 x32_3).f2).length c313_2)).heap[gb311]? = some (.cells #[.int .i64 0, .int .i64 0, .slice none 0 0] 62 (0, 0))) := ⟨by (with_reducible repeat (first | refine ac_ ?_ _ | refine ae_ ?_ | refine ad_ ?_ _)); refine blk_far ?_ NB311_314.out _; (with_reducible repeat (first | refine ac_ ?_ _ | refine ae_ ?_ | refine ad_ ?_ _)); refine blk_far ?_ NB311_314.out _; (with_reducible repeat (first | refine ac_ ?_ _ | refine ae_ ?_ | refine ad_ ?_ _)); refine blk_far ?_ NB311_314.out _; (with_reducible repeat (first | refine ac_ ?_ _ | refine ae_ ?_ | refine ad_ ?_ _)); exact BK311.out⟩
                      have n3_ : Aside0 ((((w34.setCell ⟨gb314, 0, none⟩ (.int .i64 ((rd_T62 l0_2 x32_3).f0))).setCell ⟨gb314, 1, none⟩ (.int .i64 ((rd_T62 l0_2 x32_3).f1))).setCell ⟨gb314, 2, none⟩ (.slice A313_2 ((rd_T62 l0_2 x32_3).f2).length c313_2)).heap[gb312]? = some (.cells #[.int .i64 a0_0, .int .i64 x313001_19, u313002] 62 (0, 0))) := ⟨by (with_reducible repeat (first | refine ac_ ?_ _ | refine ae_ ?_ | refine ad_ ?_ _)); refine blk_far ?_ NB312_314.out _; (with_reducible repeat (first | refine ac_ ?_ _ | refine ae_ ?_ | refine ad_ ?_ _)); refine blk_far ?_ NB312_314.out _; (with_reducible repeat (first | refine ac_ ?_ _ | refine ae_ ?_ | refine ad_ ?_ _)); refine blk_far ?_ NB312_314.out _; (with_reducible repeat (first | refine ac_ ?_ _ | refine ae_ ?_ | refine ad_ ?_ _)); exact BK312.out⟩
                      have n4_ : Aside0 ((((w34.setCell ⟨gb314, 0, none⟩ (.int .i64 ((rd_T62 l0_2 x32_3).f0))).setCell ⟨gb314, 1, none⟩ (.int .i64 ((rd_T62 l0_2 x32_3).f1))).setCell ⟨gb314, 2, none⟩ (.slice A313_2 ((rd_T62 l0_2 x32_3).f2).length c313_2)).heap[gb314]? = some (.cells #[.int .i64 ((rd_T62 l0_2 x32_3).f0), .int .i64 ((rd_T62 l0_2 x32_3).f1), .slice A313_2 ((rd_T62 l0_2 x32_3).f2).length c313_2] 62 (0, 0))) := ⟨by (with_reducible repeat (first | refine ac_ ?_ _ | refine ae_ ?_ | refine ad_ ?_ _)); refine blk_put (cs := #[.int .i64 ((rd_T62 l0_2 x32_3).f0), .int .i64 ((rd_T62 l0_2 x32_3).f1), .slice none 0 0]) ?_ 2 _ rfl; (with_reducible repeat (first | refine ac_ ?_ _ | refine ae_ ?_ | refine ad_ ?_ _)); refine blk_put (cs := #[.int .i64 ((rd_T62 l0_2 x32_3).f0), .int .i64 0, .slice none 0 0]) ?_ 1 _ rfl; (with_reducible repeat (first | refine ac_ ?_ _ | refine ae_ ?_ | refine ad_ ?_ _)); refine blk_put (cs := #[.int .i64 0, .int .i64 0, .slice none 0 0]) ?_ 0 _ rfl; (with_reducible repeat (first | refine ac_ ?_ _ | refine ae_ ?_ | refine ad_ ?_ _)); exact BK314.out⟩
                      have n5_ : Aside0 (Below w.heap.size w (((w34.setCell ⟨gb314, 0, none⟩ (.int .i64 ((rd_T62 l0_2 x32_3).f0))).setCell ⟨gb314, 1, none⟩ (.int .i64 ((rd_T62 l0_2 x32_3).f1))).setCell ⟨gb314, 2, none⟩ (.slice A313_2 ((rd_T62 l0_2 x32_3).f2).length c313_2))) := ⟨by repeat (first | (with_reducible first | exact HB.out | apply ai_ | apply ag_ | apply ah_ | refine af_ ?_ GE310.out | refine af_ ?_ GE311.out | refine af_ ?_ GE312.out | refine af_ ?_ GE314.out) | exact HB.out)⟩
                      (try clear HO_313002)
                      (try clear BK310)
                      (try clear BK311)
                      (try clear BK312)
                      (try clear BK314)
                      (try clear HB)
                      generalize (((w34.setCell ⟨gb314, 0, none⟩ (.int .i64 ((rd_T62 l0_2 x32_3).f0))).setCell ⟨gb314, 1, none⟩ (.int .i64 ((rd_T62 l0_2 x32_3).f1))).setCell ⟨gb314, 2, none⟩ (.slice A313_2 ((rd_T62 l0_2 x32_3).f2).length c313_2)) = w39 at n0_ n1_ n2_ n3_ n4_ n5_ ⊢
                      have HO_313002 := n0_
                      have BK310 := n1_
                      have BK311 := n2_
                      have BK312 := n3_
                      have BK314 := n4_
                      have HB := n5_
                      clear n0_ n1_ n2_ n3_ n4_ n5_
                      have n0_ := ab_ (ap_ HO_313002.out)
                      have n1_ := ab_ (ae_ BK310.out)
                      have n2_ := ab_ (ae_ BK311.out)
                      have n3_ := ab_ (ae_ BK312.out)
                      have n4_ := ab_ (ae_ BK314.out)
                      have n5_ := ab_ (ah_ HB.out)
                      clear HO_313002
                      clear BK310
                      clear BK311
                      clear BK312
                      clear BK314
                      clear HB
                      have HO_313002 := n0_
                      have BK310 := n1_
                      have BK311 := n2_
                      have BK312 := n3_
                      have BK314 := n4_
                      have HB := n5_
                      clear n0_ n1_ n2_ n3_ n4_ n5_
                      refine start_ (n := 15) (S := fun w' => w'.cell? ⟨gb312, 0, none⟩ = some (.int .i64 a0_0) ∧ w'.cell? ⟨gb312, 1, none⟩ = some (.int .i64 x313001_19) ∧ w'.cell? ⟨gb312, 2, none⟩ = some (u313002) ∧ w'.cell? ⟨gb314, 0, none⟩ = some (.int .i64 ((rd_T62 l0_2 x32_3).f0)) ∧ w'.cell? ⟨gb314, 1, none⟩ = some (.int .i64 ((rd_T62 l0_2 x32_3).f1)) ∧ w'.cell? ⟨gb314, 2, none⟩ = some (.slice A313_2 ((rd_T62 l0_2 x32_3).f2).length c313_2) ∧ w'.cell? ⟨gb310, 0, none⟩ = some (.int .i64 a0_0) ∧ w'.cell? ⟨gb310, 1, none⟩ = some (.int .i64 a0_1) ∧ w'.cell? ⟨gb310, 2, none⟩ = some (.slice (some ad313) l0_2.length c0_2)) (ds := [14]) #[false, false, false, false, false, false, false, false, false, false, false, false, false, false, false] (by kernel_rfl) rfl rfl ⟨(am_ BK312.out 0).trans rfl, (am_ BK312.out 1).trans rfl, (am_ BK312.out 2).trans rfl, (am_ BK314.out 0).trans rfl, (am_ BK314.out 1).trans rfl, (am_ BK314.out 2).trans rfl, (am_ BK310.out 0).trans rfl, (am_ BK310.out 1).trans rfl, (am_ BK310.out 2).trans rfl⟩ (fun hHeld => ?_); refine with_tabW spec_l3Shift.tab7 spec_l3Shift.bits7 (fun HT_ HW_ => ?_)
                      generalize w39.drew = w40 at HO_313002 BK310 BK311 BK312 BK314 HB hHeld ⊢
                      refine pure_ (i := 0) (N := some 37) (v := ?_) (a' := ?_) #[true, false, false, false, false, false, false, false, false, false, false, false, false, false, false] rfl rfl (any_of HT_.out (by kernel_rfl)) (fun _ _ _ h => h) (Or.inl ⟨by rfl, ?_⟩) ?_ ?_
                      rotate_left
                      · intro w'
                        go_simp
                        with_reducible rfl
                      rotate_left
                      · simp only [Act.put, List.setIfInBounds_toArray, List.set_cons_zero, List.set_cons_succ, i64_w, i32_w]
                        rfl
                      refine pure_ (i := 3) (N := some 40) (v := ?_) (a' := ?_) #[true, false, false, true, false, false, false, false, false, false, false, false, false, false, false] rfl rfl (any_of HT_.out (by kernel_rfl)) (fun _ _ _ h => h) (Or.inl ⟨by rfl, ?_⟩) ?_ ?_
                      rotate_left
                      · intro w'
                        go_simp
                        with_reducible rfl
                      rotate_left
                      · simp only [Act.put, List.setIfInBounds_toArray, List.set_cons_zero, List.set_cons_succ, i64_w, i32_w]
                        rfl
                      refine pure_ (i := 4) (N := some 41) (v := ?_) (a' := ?_) #[true, false, false, true, true, false, false, false, false, false, false, false, false, false, false] rfl rfl (any_of HT_.out (by kernel_rfl)) (fun _ _ _ h => h) (Or.inl ⟨by rfl, ?_⟩) ?_ ?_
                      rotate_left
                      · intro w'
                        go_simp
                        with_reducible rfl
                      rotate_left
                      · simp only [Act.put, List.setIfInBounds_toArray, List.set_cons_zero, List.set_cons_succ, i64_w, i32_w]
                        rfl
                      refine pure_ (i := 5) (N := some 42) (v := ?_) (a' := ?_) #[true, false, false, true, true, true, false, false, false, false, false, false, false, false, false] rfl rfl (any_of HT_.out (by kernel_rfl)) (fun _ _ _ h => h) (Or.inl ⟨by rfl, ?_⟩) ?_ ?_
                      rotate_left
                      · intro w'
                        go_simp
                        with_reducible rfl
                      rotate_left
                      · simp only [Act.put, List.setIfInBounds_toArray, List.set_cons_zero, List.set_cons_succ, i64_w, i32_w]
                        rfl
                      refine pure_ (i := 7) (N := some 44) (v := ?_) (a' := ?_) #[true, false, false, true, true, true, false, true, false, false, false, false, false, false, false] rfl rfl (any_of HT_.out (by kernel_rfl)) (fun _ _ _ h => h) (Or.inl ⟨by rfl, ?_⟩) ?_ ?_
                      rotate_left
                      · intro w'
                        go_simp
                        with_reducible rfl
                      rotate_left
                      · simp only [Act.put, List.setIfInBounds_toArray, List.set_cons_zero, List.set_cons_succ, i64_w, i32_w]
                        rfl
                      refine take_ (i := 1) (N := some 38) (v := ?_) (a' := ?_) #[true, true, false, true, true, true, false, true, false, false, false, false, false, false, false] rfl rfl (take_ofW HT_.out HW_.out (by kernel_rfl)) (fun _ _ _ h => h) (Or.inl ⟨by rfl, ?_⟩) hHeld ?_ ?_
                      rotate_left
                      · rintro w' ⟨s0, s1, s2, s3, s4, s5, s6, s7, s8⟩
                        go_simp
                        with_reducible rfl
                      rotate_left
                      · simp only [Act.put, List.setIfInBounds_toArray, List.set_cons_zero, List.set_cons_succ, i64_w, i32_w]
                        rfl
                      refine take_ (i := 2) (N := some 39) (v := ?_) (a' := ?_) #[true, true, true, true, true, true, false, true, false, false, false, false, false, false, false] rfl rfl (take_ofW HT_.out HW_.out (by kernel_rfl)) (fun _ _ _ h => h) (Or.inl ⟨by rfl, ?_⟩) hHeld ?_ ?_
                      rotate_left
                      · rintro w' ⟨s0, s1, s2, s3, s4, s5, s6, s7, s8⟩
                        go_simp
                        with_reducible rfl
                      rotate_left
                      · simp only [Act.put, List.setIfInBounds_toArray, List.set_cons_zero, List.set_cons_succ, i64_w, i32_w]
                        rfl
                      refine take_ (i := 6) (N := some 43) (v := ?_) (a' := ?_) #[true, true, true, true, true, true, true, true, false, false, false, false, false, false, false] rfl rfl (take_ofW HT_.out HW_.out (by kernel_rfl)) (fun _ _ _ h => h) (Or.inl ⟨by rfl, ?_⟩) hHeld ?_ ?_
                      rotate_left
                      · rintro w' ⟨s0, s1, s2, s3, s4, s5, s6, s7, s8⟩
                        go_simp
                        with_reducible rfl
                      rotate_left
                      · simp only [Act.put, List.setIfInBounds_toArray, List.set_cons_zero, List.set_cons_succ, i64_w, i32_w]
                        rfl
                      refine one_ (i := 8) (N := some 45) #[true, true, true, true, true, true, true, true, true, false, false, false, false, false, false] rfl rfl (one_of HT_.out (by kernel_rfl)) (by decide) (fun K hK => ?_)
                      refine goes_ Try.func118 (by kernel_rfl) rfl #[.int .i64 a0_0, .int .i64 x32_3] (by rfl) rfl rfl (by (try simp only [List.map_toArray, List.map_cons, List.map_nil]); first | done | rfl | (simp only [List.length_drop, List.length_take]; rfl)) ?_
                      with_reducible refine (spec_l3Binds.calls a0_0 x32_3 t315 _ A31.out).mono ?_
                      rintro e w' ⟨rfl, ⟨nd, rfl⟩⟩
                      refine ⟨_, rfl, ?_⟩
                      refine hK.out _ _ ⟨(am_ BK312.out 0).trans rfl, (am_ BK312.out 1).trans rfl, (am_ BK312.out 2).trans rfl, (am_ BK314.out 0).trans rfl, (am_ BK314.out 1).trans rfl, (am_ BK314.out 2).trans rfl, (am_ BK310.out 0).trans rfl, (am_ BK310.out 1).trans rfl, (am_ BK310.out 2).trans rfl⟩ (fun hHeld => ?_)
                      clear hK K
                      refine norm_ (a' := ?_) ?_ ?_
                      rotate_left
                      · show Act.put _ (some 45) _ = _
                        simp only [Act.put, List.setIfInBounds_toArray, List.set_cons_zero, List.set_cons_succ, i64_w, i32_w]
                        rfl
                      refine pure_ (i := 9) (N := some 46) (v := ?_) (a' := ?_) #[true, true, true, true, true, true, true, true, true, true, false, false, false, false, false] rfl rfl (any_of HT_.out (by kernel_rfl)) (fun _ _ _ h => h) (Or.inl ⟨by rfl, ?_⟩) ?_ ?_
                      rotate_left
                      · intro w'
                        go_simp
                        with_reducible rfl
                      rotate_left
                      · simp only [Act.put, List.setIfInBounds_toArray, List.set_cons_zero, List.set_cons_succ, i64_w, i32_w]
                        rfl
                      refine one_ (i := 10) (N := some 47) #[true, true, true, true, true, true, true, true, true, true, true, false, false, false, false] rfl rfl (one_of HT_.out (by kernel_rfl)) (by decide) (fun K hK => ?_)
                      refine goes_ Try.func127 (by kernel_rfl) rfl #[.agg #[.int .i64 ((rd_T62 l0_2 x32_3).f0), .int .i64 ((rd_T62 l0_2 x32_3).f1), .slice A313_2 ((rd_T62 l0_2 x32_3).f2).length c313_2], .int .i64 a1, .int .i64 (wrap64 (a2 + t315))] (by rfl) rfl rfl (by (try simp only [List.map_toArray, List.map_cons, List.map_nil]); first | done | rfl | (simp only [List.length_drop, List.length_take]; rfl)) ?_
                      with_reducible refine (ih k3 (by have := HJ3.out; have := HJ19.out; have := HK3.out; omega) ((rd_T62 l0_2 x32_3).f0) ((rd_T62 l0_2 x32_3).f1) _ _ ((rd_T62 l0_2 x32_3).f2) a1 (wrap64 (a2 + t315)) t316 t317 t318 _ ?side1 ?side2 A32.out).mono ?_
                      (case side1 => repeat (first | exact (Kd.C_below HR313_2.out (by repeat (first | (with_reducible first | exact HB.out | apply ai_ | apply ag_ | apply ah_ | refine af_ ?_ GE310.out | refine af_ ?_ GE311.out | refine af_ ?_ GE312.out | refine af_ ?_ GE314.out) | exact HB.out))) | (with_reducible refine Kd.C_alloc ?_ _) | (with_reducible refine Kd.C_drewN ?_ _) | (with_reducible refine Kd.C_drew ?_)))
                      (case side2 => exact HC313_2.out)
                      rintro e w41 ⟨v319, rfl, ho0, hb⟩
                      refine ⟨_, rfl, ?_⟩
                      have n0_ := ab_ (Kd.R_elder' (by (with_reducible repeat (first | apply an_ | apply ao_ | apply ap_)); exact HO_313002.out) (Kd.R_base ho0) hb)
                      have n1_ := ab_ (Kd.R_lower (Kd.R_newB (Kd.R_newB (Kd.R_newB (Kd.R_newB (Kd.R_new' ho0 (Kd.R_lt (by (with_reducible repeat (first | apply an_ | apply ao_ | apply ap_)); exact HO_313002.out))) (g := gb310) (o := .cells #[.int .i64 a0_0, .int .i64 a0_1, .slice (some ad313) l0_2.length c0_2] 62 (0, 0)) (by (with_reducible repeat (first | refine ac_ ?_ _ | refine ae_ ?_ | refine ad_ ?_ _)); exact BK310.out)) (g := gb311) (o := .cells #[.int .i64 0, .int .i64 0, .slice none 0 0] 62 (0, 0)) (by (with_reducible repeat (first | refine ac_ ?_ _ | refine ae_ ?_ | refine ad_ ?_ _)); exact BK311.out)) (g := gb312) (o := .cells #[.int .i64 a0_0, .int .i64 x313001_19, u313002] 62 (0, 0)) (by (with_reducible repeat (first | refine ac_ ?_ _ | refine ae_ ?_ | refine ad_ ?_ _)); exact BK312.out)) (g := gb314) (o := .cells #[.int .i64 ((rd_T62 l0_2 x32_3).f0), .int .i64 ((rd_T62 l0_2 x32_3).f1), .slice A313_2 ((rd_T62 l0_2 x32_3).f2).length c313_2] 62 (0, 0)) (by (with_reducible repeat (first | refine ac_ ?_ _ | refine ae_ ?_ | refine ad_ ?_ _)); exact BK314.out)) (below_size (by repeat (first | (with_reducible first | exact HB.out | apply ai_ | apply ag_ | apply ah_ | refine af_ ?_ GE310.out | refine af_ ?_ GE311.out | refine af_ ?_ GE312.out | refine af_ ?_ GE314.out) | exact HB.out))))
                      have n2_ := ab_ (blk_below (g := gb310) (o := .cells #[.int .i64 a0_0, .int .i64 a0_1, .slice (some ad313) l0_2.length c0_2] 62 (0, 0)) (by (with_reducible repeat (first | refine ac_ ?_ _ | refine ae_ ?_ | refine ad_ ?_ _)); exact BK310.out) hb)
                      have n3_ := ab_ (blk_below (g := gb311) (o := .cells #[.int .i64 0, .int .i64 0, .slice none 0 0] 62 (0, 0)) (by (with_reducible repeat (first | refine ac_ ?_ _ | refine ae_ ?_ | refine ad_ ?_ _)); exact BK311.out) hb)
                      have n4_ := ab_ (blk_below (g := gb312) (o := .cells #[.int .i64 a0_0, .int .i64 x313001_19, u313002] 62 (0, 0)) (by (with_reducible repeat (first | refine ac_ ?_ _ | refine ae_ ?_ | refine ad_ ?_ _)); exact BK312.out) hb)
                      have n5_ := ab_ (blk_below (g := gb314) (o := .cells #[.int .i64 ((rd_T62 l0_2 x32_3).f0), .int .i64 ((rd_T62 l0_2 x32_3).f1), .slice A313_2 ((rd_T62 l0_2 x32_3).f2).length c313_2] 62 (0, 0)) (by (with_reducible repeat (first | refine ac_ ?_ _ | refine ae_ ?_ | refine ad_ ?_ _)); exact BK314.out) hb)
                      have n6_ := ab_ (ar_ (by repeat (first | (with_reducible first | exact HB.out | apply ai_ | apply ag_ | apply ah_ | refine af_ ?_ GE310.out | refine af_ ?_ GE311.out | refine af_ ?_ GE312.out | refine af_ ?_ GE314.out) | exact HB.out)) hb)
                      clear HO_313002
                      clear BK310
                      clear BK311
                      clear BK312
                      clear BK314
                      clear HB
                      have HO_313002 := n0_
                      have HO320 := n1_
                      have BK310 := n2_
                      have BK311 := n3_
                      have BK312 := n4_
                      have BK314 := n5_
                      have HB := n6_
                      clear n0_ n1_ n2_ n3_ n4_ n5_ n6_
                      (try clear hb)
                      (try clear hb2)
                      (try clear hk)
                      (try clear hi)
                      (try clear ho0)
                      obtain ⟨Ao43, co43, eo43⟩ := Kd.R_slice HO320.out
                      (first | subst eo43 | (injection eo43 with f1_ f2_ f3_; have f4_ := f1_.symm; have f5_ := f3_.symm; clear f1_ f2_ f3_; subst f4_; subst f5_))
                      refine hK.out _ _ ⟨(am_ BK312.out 0).trans rfl, (am_ BK312.out 1).trans rfl, (am_ BK312.out 2).trans rfl, (am_ BK314.out 0).trans rfl, (am_ BK314.out 1).trans rfl, (am_ BK314.out 2).trans rfl, (am_ BK310.out 0).trans rfl, (am_ BK310.out 1).trans rfl, (am_ BK310.out 2).trans rfl⟩ (fun hHeld => ?_)
                      clear hK K
                      refine norm_ (a' := ?_) ?_ ?_
                      rotate_left
                      · show Act.put _ (some 47) _ = _
                        simp only [Act.put, List.setIfInBounds_toArray, List.set_cons_zero, List.set_cons_succ, i64_w, i32_w]
                        rfl
                      refine one_ (i := 11) (N := some 48) #[true, true, true, true, true, true, true, true, true, true, true, true, false, false, false] rfl rfl (one_of HT_.out (by kernel_rfl)) (by decide) (fun K hK => ?_)
                      refine value_ (w1 := ?_) (v := ?_) (by rfl) rfl ?_ ?_
                      rotate_left 2
                      · go_simp
                        constructor
                        · rfl
                        · rfl
                      refine hK.out _ _ ⟨(am_ (ad_ BK312.out _) 0).trans rfl, (am_ (ad_ BK312.out _) 1).trans rfl, (am_ (ad_ BK312.out _) 2).trans rfl, (am_ (ad_ BK314.out _) 0).trans rfl, (am_ (ad_ BK314.out _) 1).trans rfl, (am_ (ad_ BK314.out _) 2).trans rfl, (am_ (ad_ BK310.out _) 0).trans rfl, (am_ (ad_ BK310.out _) 1).trans rfl, (am_ (ad_ BK310.out _) 2).trans rfl⟩ (fun hHeld => ?_)
                      clear hK K
                      refine norm_ (a' := ?_) ?_ ?_
                      rotate_left
                      · show Act.put _ (some 48) _ = _
                        simp only [Act.put, List.setIfInBounds_toArray, List.set_cons_zero, List.set_cons_succ, i64_w, i32_w]
                        rfl
                      refine one_ (i := 12) (N := some 49) #[true, true, true, true, true, true, true, true, true, true, true, true, true, false, false] rfl rfl (one_of HT_.out (by kernel_rfl)) (by decide) (fun K hK => ?_)
                      refine Kd.R_append_step k62 (w0 := w) w.heap.size (by rfl) (.tmp 38) (.tmp 48) 60 62 (.agg #[(.int .i64 0), (.int .i64 0), (.slice none 0 0)]) 40 rfl Try.underlying60 info62 rfl (by decide) (by omega) u313002 x313002_3 (⟨t316, t317, t318⟩ : S62) [.int .i64 t316, .int .i64 t317, .slice Ao43 t318.length co43] (fun k_ => k_ ≠ gb310 ∧ k_ ≠ gb311 ∧ k_ ≠ gb312 ∧ k_ ≠ gb314) (fun k_ => ((fun k_ => k_ ≠ gb310 ∧ k_ ≠ gb311 ∧ k_ ≠ gb312 ∧ k_ ≠ gb314)) k_ ∧ some k_ ≠ (u313002 : Value).ownBlock) rfl rfl ?aP (fun _ hk => hk) ?aF ?aO ?aB ?aS ?aL ?_
                      (case aP => exact k62_mkM _ _ _ (⟨t316, t317, t318⟩ : S62) (Kd.R_mono (HO320.out) (fun k_ hk => ⟨⟨hk.1.1.1.2, ⟨hk.1.1.2, ⟨hk.1.2, hk.2⟩⟩⟩, hk.1.1.1.1.2⟩)))
                      (case aB => exact (by repeat (first | (with_reducible first | exact HB.out | apply ai_ | apply ag_ | apply ah_ | refine af_ ?_ GE310.out | refine af_ ?_ GE311.out | refine af_ ?_ GE312.out | refine af_ ?_ GE314.out) | exact HB.out)))
                      (case aF => exact (fun k_ hk => ⟨Kd.freshB (g := gb310) (o := .cells #[.int .i64 a0_0, .int .i64 a0_1, .slice (some ad313) l0_2.length c0_2] 62 (0, 0)) (by (with_reducible repeat (first | refine ac_ ?_ _ | refine ae_ ?_ | refine ad_ ?_ _)); exact BK310.out) k_ hk, Kd.freshB (g := gb311) (o := .cells #[.int .i64 0, .int .i64 0, .slice none 0 0] 62 (0, 0)) (by (with_reducible repeat (first | refine ac_ ?_ _ | refine ae_ ?_ | refine ad_ ?_ _)); exact BK311.out) k_ hk, Kd.freshB (g := gb312) (o := .cells #[.int .i64 a0_0, .int .i64 x313001_19, u313002] 62 (0, 0)) (by (with_reducible repeat (first | refine ac_ ?_ _ | refine ae_ ?_ | refine ad_ ?_ _)); exact BK312.out) k_ hk, Kd.freshB (g := gb314) (o := .cells #[.int .i64 ((rd_T62 l0_2 x32_3).f0), .int .i64 ((rd_T62 l0_2 x32_3).f1), .slice A313_2 ((rd_T62 l0_2 x32_3).f2).length c313_2] 62 (0, 0)) (by (with_reducible repeat (first | refine ac_ ?_ _ | refine ae_ ?_ | refine ad_ ?_ _)); exact BK314.out) k_ hk⟩))
                      (case aO => exact (by (with_reducible repeat (first | apply an_ | apply ao_ | apply ap_)); exact Kd.R_mono HO_313002.out (fun _ hk => ⟨hk.1.1, ⟨hk.1.2.1, ⟨hk.1.2.2.1, hk.1.2.2.2⟩⟩⟩)))
                      (case aS => exact (below_size (by repeat (first | (with_reducible first | exact HB.out | apply ai_ | apply ag_ | apply ah_ | refine af_ ?_ GE310.out | refine af_ ?_ GE311.out | refine af_ ?_ GE312.out | refine af_ ?_ GE314.out) | exact HB.out))))
                      (case aL => have := LMc33.out; omega)
                      intro v322 w42 ho hb hg hat
                      rw [← Ny321.out] at ho
                      have n0_ := ab_ (blk_grown (g := gb310) (o := .cells #[.int .i64 a0_0, .int .i64 a0_1, .slice (some ad313) l0_2.length c0_2] 62 (0, 0)) (by (with_reducible repeat (first | refine ac_ ?_ _ | refine ae_ ?_ | refine ad_ ?_ _)); exact BK310.out) hg (Kd.R_away HO_313002.out (fun _ hk => hk.1.1)))
                      have n1_ := ab_ (blk_grown (g := gb311) (o := .cells #[.int .i64 0, .int .i64 0, .slice none 0 0] 62 (0, 0)) (by (with_reducible repeat (first | refine ac_ ?_ _ | refine ae_ ?_ | refine ad_ ?_ _)); exact BK311.out) hg (Kd.R_away HO_313002.out (fun _ hk => hk.1.2.1)))
                      have n2_ := ab_ (blk_grown (g := gb312) (o := .cells #[.int .i64 a0_0, .int .i64 x313001_19, u313002] 62 (0, 0)) (by (with_reducible repeat (first | refine ac_ ?_ _ | refine ae_ ?_ | refine ad_ ?_ _)); exact BK312.out) hg (Kd.R_away HO_313002.out (fun _ hk => hk.1.2.2.1)))
                      have n3_ := ab_ (blk_grown (g := gb314) (o := .cells #[.int .i64 ((rd_T62 l0_2 x32_3).f0), .int .i64 ((rd_T62 l0_2 x32_3).f1), .slice A313_2 ((rd_T62 l0_2 x32_3).f2).length c313_2] 62 (0, 0)) (by (with_reducible repeat (first | refine ac_ ?_ _ | refine ae_ ?_ | refine ad_ ?_ _)); exact BK314.out) hg (Kd.R_away HO_313002.out (fun _ hk => hk.1.2.2.2)))
                      have n4_ := ab_ (hb)
                      have n5_ := ab_ (ho)
                      clear BK310
                      clear BK311
                      clear BK312
                      clear BK314
                      clear HB
                      clear HO_313002
                      clear HO320
                      have BK310 := n0_
                      have BK311 := n1_
                      have BK312 := n2_
                      have BK314 := n3_
                      have HB := n4_
                      have HO323 := n5_
                      clear n0_ n1_ n2_ n3_ n4_ n5_
                      clear ho hb hg hat
                      obtain ⟨Ao44, co44, eo44⟩ := Kd.R_slice HO323.out
                      (first | subst eo44 | (injection eo44 with f1_ f2_ f3_; have f4_ := f1_.symm; have f5_ := f3_.symm; clear f1_ f2_ f3_; subst f4_; subst f5_))
                      refine hK.out _ _ ⟨(am_ BK312.out 0).trans rfl, (am_ BK312.out 1).trans rfl, (am_ BK312.out 2).trans rfl, (am_ BK314.out 0).trans rfl, (am_ BK314.out 1).trans rfl, (am_ BK314.out 2).trans rfl, (am_ BK310.out 0).trans rfl, (am_ BK310.out 1).trans rfl, (am_ BK310.out 2).trans rfl⟩ (fun hHeld => ?_)
                      clear hK K
                      refine norm_ (a' := ?_) ?_ ?_
                      rotate_left
                      · show Act.put _ (some 49) _ = _
                        simp only [Act.put, List.setIfInBounds_toArray, List.set_cons_zero, List.set_cons_succ, i64_w, i32_w]
                        rfl
                      refine pure_ (i := 13) (N := some 50) (v := ?_) (a' := ?_) #[true, true, true, true, true, true, true, true, true, true, true, true, true, true, false] rfl rfl (any_of HT_.out (by kernel_rfl)) (fun _ _ _ h => h) (Or.inl ⟨by rfl, ?_⟩) ?_ ?_
                      rotate_left
                      · intro w'
                        go_simp
                        with_reducible rfl
                      rotate_left
                      · simp only [Act.put, List.setIfInBounds_toArray, List.set_cons_zero, List.set_cons_succ, i64_w, i32_w]
                        rfl
                      refine last_ (i := 14) (N := none) #[true, true, true, true, true, true, true, true, true, true, true, true, true, true, true] rfl rfl (one_of HT_.out (by kernel_rfl)) (by decide) (fun K hK => ?_)
                      have hs45 : w42.cell? ⟨gb312, 2, none⟩ = some (u313002) := (am_ BK312.out 2).trans rfl
                      have hfs45 := al_ BK312.out 2
                      have hns45_0 := NB310_312.out
                      have hns45_1 := NB311_312.out
                      have hns45_3 := NB314_312.out
                      have hms45_0 := NB312_310.out
                      have hms45_1 := NB312_311.out
                      have hms45_3 := NB312_314.out
                      refine skip_ (w1 := ?_) (by rfl) rfl ?_ ?_
                      rotate_left
                      · go_simp
                        rfl
                      refine hK.out _ _ ?_
                      clear hK K
                      refine done_ (done_of HT_.out (by kernel_rfl)) ?_
                      try go_wp2
                      go_roundg k3
                      case measure => have := HJ3.out; have := HJ19.out; have := HK3.out; omega
                      case rel => exact ⟨(wrap64 (x32_3 + 1)), (y321), (.slice Ao44 y321.length co44), (by first | rfl | (simp; done) | (simp [*]; done)), H', ⟨by have := HJ3.out; have := HJ19.out; have := HK3.out; omega⟩, ⟨by (with_reducible repeat (first | apply an_ | apply ao_ | apply ap_)); exact Kd.R_mono (Kd.R_far (p := ⟨gb312, 2, none⟩) (Kd.R_mono HO323.out (fun k_ hk => (⟨hk, hk.2.2.1⟩ : _ ∧ k_ ≠ gb312))) (fun _ hk => hk.2) (.slice Ao44 y321.length co44)) (fun _ hk => ⟨hk.1.1, ⟨hk.1.2.1, hk.1.2.2.1⟩⟩)⟩, ⟨by (with_reducible repeat (first | refine ac_ ?_ _ | refine ae_ ?_ | refine ad_ ?_ _)); refine blk_far ?_ NB310_312.out _; (with_reducible repeat (first | refine ac_ ?_ _ | refine ae_ ?_ | refine ad_ ?_ _)); exact BK310.out⟩, ⟨by (with_reducible repeat (first | refine ac_ ?_ _ | refine ae_ ?_ | refine ad_ ?_ _)); refine blk_far ?_ NB311_312.out _; (with_reducible repeat (first | refine ac_ ?_ _ | refine ae_ ?_ | refine ad_ ?_ _)); exact BK311.out⟩, ⟨by (with_reducible repeat (first | refine ac_ ?_ _ | refine ae_ ?_ | refine ad_ ?_ _)); refine blk_put (cs := #[.int .i64 a0_0, .int .i64 x313001_19, u313002]) ?_ 2 _ rfl; (with_reducible repeat (first | refine ac_ ?_ _ | refine ae_ ?_ | refine ad_ ?_ _)); exact BK312.out⟩, ⟨by repeat (first | (with_reducible first | exact HB.out | apply ai_ | apply ag_ | apply ah_ | refine af_ ?_ GE310.out | refine af_ ?_ GE311.out | refine af_ ?_ GE312.out | refine af_ ?_ GE314.out) | exact HB.out)⟩⟩
                    · rw [if_neg c33] at H
                      exact absurd H (by simp)
                  · rw [if_neg c30] at H
                    exact absurd H (by simp)
                · rw [if_neg c29] at H
                  exact absurd H (by simp)
              · rw [if_neg c28] at H
                have c28b0 : decide (x32_3 < (l0_2.length : Int)) = false := decide_eq_false c28
                clear c28
                simp only [Option.some.injEq, Prod.mk.injEq] at H
                obtain ⟨rfl, rfl, rfl⟩ := H
                have hnb46 := NB312_310.out
                have hnc46 := NB310_312.out
                have hnb47 := NB312_311.out
                have hnc47 := NB311_312.out
                have hcz48_0 : wr.cell? ⟨gb312, 0, none⟩ = some (.int .i64 a0_0) := (am_ BK312.out 0).trans rfl
                have hcz48_1 : wr.cell? ⟨gb312, 1, none⟩ = some (.int .i64 x313001_19) := (am_ BK312.out 1).trans rfl
                have hcz48_2 : wr.cell? ⟨gb312, 2, none⟩ = some (u313002) := (am_ BK312.out 2).trans rfl
                have hfz48_0 := al_ BK312.out 0
                have hfz48_1 := al_ BK312.out 1
                have hfz48_2 := al_ BK312.out 2
                have hnb49 := NB311_310.out
                have hnc49 := NB310_311.out
                have hcz50_0 : wr.cell? ⟨gb311, 0, none⟩ = some (.int .i64 0) := (am_ BK311.out 0).trans rfl
                have hcz50_1 : wr.cell? ⟨gb311, 1, none⟩ = some (.int .i64 0) := (am_ BK311.out 1).trans rfl
                have hcz50_2 : wr.cell? ⟨gb311, 2, none⟩ = some (.slice none 0 0) := (am_ BK311.out 2).trans rfl
                have hfz50_0 := al_ BK311.out 0
                have hfz50_1 := al_ BK311.out 1
                have hfz50_2 := al_ BK311.out 2
                obtain ⟨Ao51, co51, eo51⟩ := Kd.R_slice HO_313002.out
                subst eo51
                go_wp2
                refine bodyPost_ret (results_cell_row rfl _ _ gb311 62 #[.int .i64 a0_0, .int .i64 x313001_19, .slice Ao51 x313002_3.length co51] (0, 0) _ rfl (by (with_reducible repeat (first | refine ac_ ?_ _ | refine ae_ ?_ | refine ad_ ?_ _)); refine blk_put (cs := #[.int .i64 a0_0, .int .i64 x313001_19, .slice none 0 0]) ?_ 2 _ rfl; (with_reducible repeat (first | refine ac_ ?_ _ | refine ae_ ?_ | refine ad_ ?_ _)); refine blk_put (cs := #[.int .i64 a0_0, .int .i64 0, .slice none 0 0]) ?_ 1 _ rfl; (with_reducible repeat (first | refine ac_ ?_ _ | refine ae_ ?_ | refine ad_ ?_ _)); refine blk_put (cs := #[.int .i64 0, .int .i64 0, .slice none 0 0]) ?_ 0 _ rfl; (with_reducible repeat (first | refine ac_ ?_ _ | refine ae_ ?_ | refine ad_ ?_ _)); exact BK311.out) Try.underlying62 rfl (by kernel_rfl)) rfl ?_
                exact ⟨_, by first | rfl | (simp [errW_none, errW_some] <;> rfl) | (simp [*, errW_none, errW_some] <;> rfl), by (with_reducible repeat (first | apply an_ | apply ao_ | apply ap_)); exact Kd.R_mono (Kd.R_far (p := ⟨gb311, 2, none⟩) (Kd.R_far (p := ⟨gb311, 1, none⟩) (Kd.R_far (p := ⟨gb311, 0, none⟩) (Kd.R_mono HO_313002.out (fun k_ hk => (⟨hk, hk.2.1⟩ : _ ∧ k_ ≠ gb311))) (fun _ hk => hk.2) (.int .i64 a0_0)) (fun _ hk => hk.2) (.int .i64 x313001_19)) (fun _ hk => hk.2) (.slice Ao51 x313002_3.length co51)) (fun _ hk => trivial), by repeat (first | (with_reducible first | exact HB.out | apply ai_ | apply ag_ | apply ah_ | refine af_ ?_ GE310.out | refine af_ ?_ GE311.out | refine af_ ?_ GE312.out) | exact HB.out)⟩
end Go.Proofs.Ytgoiifpimpnlpaa.PAll

end
