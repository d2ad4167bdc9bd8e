/- exprFrom makes the tree that xparse tells. (Written by mkexpr.py.) -/
import Derived.Test.YtkmobaffmlcaiaaHexprA
import Derived.Test.YtkmobaffmlcaiaaPAllx3
namespace Go.Proofs.Ytkmobaffmlcaiaa.PAll
open Go.RowKit Go.Proofs.YtkmobaffmlcaiaaW.PrintWords Go.Proofs.YtkmobaffmlcaiaaW.PrintLast Go.Proofs.YtkmobaffmlcaiaaW.PrintMore
set_option linter.unusedVariables false
set_option linter.unusedSimpArgs false

set_option maxRecDepth 100000 in
set_option maxHeartbeats 4000000 in
theorem exprFrom_calls (w0 : World) (k : Nat) : ∀ (l : List S60) (A : Option Addr) (c : Nat) (w : World), l.length < k → (∀ x ∈ l, x.f2.size ≤ maxLen) → Below w0.heap.size w0 w → Kd.C k60 w0 A l.length l → l.length ≤ c →
    Calls Try.prog 46 #[.slice A l.length c] w (XFrom (xparse k l) w0 w) := by
  induction k with
  | zero => intro l A c w h; omega
  | succ k ih =>
    intro l A c w hk hs hW hr hc
    cases l with
    | nil =>
      go_enter Try.func46, Try.ntmps46
      go_wp2
      go_ret2
      exact ⟨Below.refl _ _, rfl⟩
    | cons x l =>
      simp only [List.length_cons] at hk hc hr ⊢
      obtain ⟨ad, rfl, hc0, hc1, hc2⟩ := at_T60 (Kd.C_below hr hW) 0 (by omega) (by omega)
      have e0 : ad.add (Int.toNat 0 * 3) = ad := by simp [Addr.add]
      rw [e0, show rd_T60 (x :: l) 0 = x from rfl] at hc0 hc1 hc2
      clear e0
      obtain ⟨A1, hd, hcut⟩ : ∃ A1, Kd.C k60 w0 A1 l.length l ∧ ∀ W : World, (Instr.slice 40 (.slice (some ad) (l.length + 1) c) (some (.int .i64 1)) none none).run Try.prog W = .ok (.slice A1 l.length (c - 1)) W := by
        obtain ⟨i0, hi0, _, hsz, _⟩ := info_parts info60
        refine ⟨_, Kd.C_drop (k := k60) (m := 1) hr (by simp) hc, fun W => ?_⟩
        rw [cut_from (P := Try.prog) 40 60 .i64 Try.underlying40 hi0 3 hsz (some ad) (l.length + 1) c 1 (by omega) (by omega)]
        rfl
      have hsx : x.f2.size ≤ maxLen := hs x (by simp)
      have hsl : ∀ y ∈ l, y.f2.size ≤ maxLen := fun y hy => hs y (by simp [hy])
      have HSL := Lib.hid hsl
      have HSX := Lib.hid hsx
      have HD := Lib.hid hd
      have HR := Lib.hid hr
      have IH := Lib.hid ih
      have HW := Lib.hid hW
      clear hd hr ih hW hs hsl hsx
      have hd0 : ∀ o, (w.alloc o).cell? ad = some (.int .i64 x.f0) := fun o => (World.cell?_alloc_lt _ _ _ (World.block_lt_of_cell? w _ hc0)).trans hc0
      have hd1 : ∀ o, (w.alloc o).cell? ⟨ad.block, ad.off + 1, none⟩ = some (.int .i64 x.f1) := fun o => (World.cell?_alloc_lt _ _ _ (World.block_lt_of_cell? w _ hc1)).trans hc1
      have hd2 : ∀ o, (w.alloc o).cell? ⟨ad.block, ad.off + 2, none⟩ = some (.string x.f2) := fun o => (World.cell?_alloc_lt _ _ _ (World.block_lt_of_cell? w _ hc2)).trans hc2
      by_cases a : x.f0 = 1
      · have b1 : (x.f0 == 1) = true := by simp [a]
        by_cases h : 0 ≤ x.f1 ∧ x.f1 ≤ 999999999
        · have a2 := h.1
          have a3 := h.2
          cases es : x.f2.toList.isEmpty with
          | true =>
            have e : xparse (k + 1) (x :: l) = some (.leaf x.f0 x.f1 x.f2, l) := by simp only [xparse]; rw [if_pos a, if_pos ⟨h, es⟩]
            rw [e]
            clear e h a
            go_enter Try.func46, Try.ntmps46
            go_wp2
            go_region
            go_wp2_with (go_at_call 32; refine (xwithin_yes _ _ _ _ a2 a3).mono ?_; rintro e w' ⟨rfl, rfl⟩)
            go_ret2
            refine ⟨by repeat (first | exact Below.refl _ _ | apply pw_below_drewN | apply below_drew1 | apply below_alloc), w.heap.size + 1, A1, c - 1, rfl, ⟨by omega, ?_⟩, HD.out, by omega⟩
            first | (simpa using blk_new (w.alloc _) _) | (simpa using blk_drew (blk_new (w.alloc _) _)) | (simpa using blk_drew (blk_new (w.alloc _).drew _)) | (simpa using blk_new (w.alloc _).drew _)
          | false =>
            have e : xparse (k + 1) (x :: l) = none := by simp only [xparse]; rw [if_pos a, if_neg (fun z => by have := z.2; unfold noText at this; rw [es] at this; cases this)]
            rw [e]
            clear e h a
            go_enter Try.func46, Try.ntmps46
            go_wp2
            go_region
            go_wp2_with (go_at_call 32; refine (xwithin_yes _ _ _ _ a2 a3).mono ?_; rintro e w' ⟨rfl, rfl⟩)
            go_ret2
            exact ⟨by repeat (first | exact Below.refl _ _ | apply pw_below_drewN | apply below_drew1 | apply below_alloc), rfl⟩
        · have e : xparse (k + 1) (x :: l) = none := by simp only [xparse]; rw [if_pos a, if_neg (fun z => h z.1)]
          rw [e]
          have Hh := Lib.hid h
          clear e h a
          go_enter Try.func46, Try.ntmps46
          go_wp2
          go_region
          go_wp2_with (go_at_call 32; refine (xwithin_no _ _ _ _ Hh.out).mono ?_; rintro e w' ⟨rfl, rfl⟩)
          go_ret2
          exact ⟨by repeat (first | exact Below.refl _ _ | apply pw_below_drewN | apply below_drew1 | apply below_alloc), rfl⟩
      have b1 : (x.f0 == 1) = false := by simp [a]
      by_cases a2 : x.f0 = 2
      · have b2 : (x.f0 == 2) = true := by simp [a2]
        by_cases h : x.f1 = 0
        · have z1 : (x.f1 == 0) = true := by simp [h]
          cases en : nameB x.f2 with
          | true =>
            have e : xparse (k + 1) (x :: l) = some (.leaf x.f0 x.f1 x.f2, l) := by simp only [xparse]; rw [if_neg a, if_pos a2, if_pos ⟨h, en⟩]
            rw [e]
            have EN := Lib.hid en
            clear e h a a2 en
            go_enter Try.func46, Try.ntmps46
            go_wp2
            go_region
            go_wp2_with (go_at_call 33; refine (nameOk_calls x.f2 _ HSX.out).mono ?_; rw [EN.out]; rintro e w' ⟨rfl, hb⟩)
            go_ret2
            refine ⟨below_step (by repeat (first | exact Below.refl _ _ | apply pw_below_drewN | apply below_drew1 | apply below_alloc)) hb, w.heap.size + 1, A1, c - 1, rfl, ⟨by omega, (hb.block _ (by simp)).trans ?_⟩, HD.out, by omega⟩
            first | (simpa using blk_new (w.alloc _) _) | (simpa using blk_drew (blk_new (w.alloc _) _)) | (simpa using blk_drew (blk_new (w.alloc _).drew _)) | (simpa using blk_new (w.alloc _).drew _)
          | false =>
            have e : xparse (k + 1) (x :: l) = none := by simp only [xparse]; rw [if_neg a, if_pos a2, if_neg (fun z => by have := z.2; rw [en] at this; cases this)]
            rw [e]
            have EN := Lib.hid en
            clear e h a a2 en
            go_enter Try.func46, Try.ntmps46
            go_wp2
            go_region
            go_wp2_with (go_at_call 33; refine (nameOk_calls x.f2 _ HSX.out).mono ?_; rw [EN.out]; rintro e w' ⟨rfl, hb⟩)
            go_ret2
            exact ⟨below_step (by repeat (first | exact Below.refl _ _ | apply pw_below_drewN | apply below_drew1 | apply below_alloc)) hb, rfl⟩
        · have z1 : (x.f1 == 0) = false := by simp [h]
          have e : xparse (k + 1) (x :: l) = none := by simp only [xparse]; rw [if_neg a, if_pos a2, if_neg (fun z => h z.1)]
          rw [e]
          clear e h a a2
          go_enter Try.func46, Try.ntmps46
          go_wp2
          go_region
          go_wp2
          go_ret2
          exact ⟨by repeat (first | exact Below.refl _ _ | apply pw_below_drewN | apply below_drew1 | apply below_alloc), rfl⟩
      have b2 : (x.f0 == 2) = false := by simp [a2]
      by_cases a3 : x.f0 = 3 ∨ x.f0 = 4
      · obtain ⟨b34, b3, hb34⟩ : ∃ b, (x.f0 == 3) = b ∧ (b = false → (x.f0 == 4) = true) := ⟨_, rfl, fun z => by rcases a3 with a3 | a3 <;> simp_all⟩
        cases hq : xparse k l with
        | none =>
          have e : xparse (k + 1) (x :: l) = none := by simp only [xparse, if_neg a, if_neg a2, if_pos a3, hq]
          rw [e]
          have HQ := Lib.hid hq
          clear hq e a a2 a3
          cases b34 with
          | true =>
            clear hb34
            go_enter Try.func46, Try.ntmps46
            go_wp2
            go_region
            go_wp2_with fail
            refine (IH.out l A1 (c - 1) _ (by omega) HSL.out (below_step HW.out (by repeat (first | exact Below.refl _ _ | apply pw_below_drewN | apply below_drew1 | apply below_alloc))) HD.out (by omega)).mono ?_
            rw [HQ.out]
            rintro e w1 ⟨hb, rfl⟩
            have hbx := (hb.block (w.heap.size + 1) (by simp)).trans (show _ = some (Obj.cells #[.int .i64 x.f0, .int .i64 x.f1, .string x.f2, .pointer none, .pointer none] 75 (0, 0)) from blk_drew (by simpa using blk_new (w.alloc _) _))
            have hxb := (hb.block w.heap.size (by simp; omega)).trans (show _ = some (Obj.cells #[.int .i64 x.f0, .int .i64 x.f1, .string x.f2] 60 (0, 0)) from blk_drew (blk_alloc (blk_new w _) _))
            have hx1 : w1.cell? ⟨w.heap.size, 1, none⟩ = some (.int .i64 x.f1) := (blk_cell hxb 1).trans rfl
            have hx2 : w1.cell? ⟨w.heap.size, 2, none⟩ = some (.string x.f2) := (blk_cell hxb 2).trans rfl
            have k3 : w1.cell? ⟨w.heap.size + 1, 3, none⟩ = some (.pointer none) := (blk_cell hbx 3).trans rfl
            have f3 : w1.frozen? ⟨w.heap.size + 1, 3, none⟩ = false := blk_frozen hbx 3
            have HBX := Lib.hid hbx
            have HXB := Lib.hid hxb
            have HB1 := Lib.hid (show Below w.heap.size w w1 from below_step (by repeat (first | exact Below.refl _ _ | apply pw_below_drewN | apply below_drew1 | apply below_alloc)) hb)
            clear hbx hxb
            go_wp2
            go_ret2
            exact ⟨below_set HB1.out (by omega), rfl⟩
          | false =>
            have b4 := hb34 rfl
            clear hb34
            go_enter Try.func46, Try.ntmps46
            go_wp2
            go_region
            go_wp2_with fail
            refine (IH.out l A1 (c - 1) _ (by omega) HSL.out (below_step HW.out (by repeat (first | exact Below.refl _ _ | apply pw_below_drewN | apply below_drew1 | apply below_alloc))) HD.out (by omega)).mono ?_
            rw [HQ.out]
            rintro e w1 ⟨hb, rfl⟩
            have hbx := (hb.block (w.heap.size + 1) (by simp)).trans (show _ = some (Obj.cells #[.int .i64 x.f0, .int .i64 x.f1, .string x.f2, .pointer none, .pointer none] 75 (0, 0)) from blk_drew (by simpa using blk_new (w.alloc _) _))
            have hxb := (hb.block w.heap.size (by simp; omega)).trans (show _ = some (Obj.cells #[.int .i64 x.f0, .int .i64 x.f1, .string x.f2] 60 (0, 0)) from blk_drew (blk_alloc (blk_new w _) _))
            have hx1 : w1.cell? ⟨w.heap.size, 1, none⟩ = some (.int .i64 x.f1) := (blk_cell hxb 1).trans rfl
            have hx2 : w1.cell? ⟨w.heap.size, 2, none⟩ = some (.string x.f2) := (blk_cell hxb 2).trans rfl
            have k3 : w1.cell? ⟨w.heap.size + 1, 3, none⟩ = some (.pointer none) := (blk_cell hbx 3).trans rfl
            have f3 : w1.frozen? ⟨w.heap.size + 1, 3, none⟩ = false := blk_frozen hbx 3
            have HBX := Lib.hid hbx
            have HXB := Lib.hid hxb
            have HB1 := Lib.hid (show Below w.heap.size w w1 from below_step (by repeat (first | exact Below.refl _ _ | apply pw_below_drewN | apply below_drew1 | apply below_alloc)) hb)
            clear hbx hxb
            go_wp2
            go_ret2
            exact ⟨below_set HB1.out (by omega), rfl⟩
        | some q =>
          obtain ⟨ta, r1⟩ := q
          have hl1 := xparse_len _ _ _ _ hq
          have HQ := Lib.hid hq
          by_cases h : x.f1 = 0
          · have z1 : (x.f1 == 0) = true := by simp [h]
            cases es : x.f2.toList.isEmpty with
            | true =>
              have e : xparse (k + 1) (x :: l) = some (.one x.f0 x.f1 x.f2 ta, r1) := by simp only [xparse, if_neg a, if_neg a2, if_pos a3, hq]; rw [if_pos ⟨h, es⟩]
              rw [e]
              clear hq e h a a2 a3 hl1
              cases b34 with
              | true =>
                clear hb34
                go_enter Try.func46, Try.ntmps46
                go_wp2
                go_region
                go_wp2_with fail
                refine (IH.out l A1 (c - 1) _ (by omega) HSL.out (below_step HW.out (by repeat (first | exact Below.refl _ _ | apply pw_below_drewN | apply below_drew1 | apply below_alloc))) HD.out (by omega)).mono ?_
                rw [HQ.out]
                rintro e w1 ⟨hb, g1, A2, c2, rfl, ha, hr1, hc2_⟩
                have hbx := (hb.block (w.heap.size + 1) (by simp)).trans (show _ = some (Obj.cells #[.int .i64 x.f0, .int .i64 x.f1, .string x.f2, .pointer none, .pointer none] 75 (0, 0)) from blk_drew (by simpa using blk_new (w.alloc _) _))
                have hxb := (hb.block w.heap.size (by simp; omega)).trans (show _ = some (Obj.cells #[.int .i64 x.f0, .int .i64 x.f1, .string x.f2] 60 (0, 0)) from blk_drew (blk_alloc (blk_new w _) _))
                have hx1 : w1.cell? ⟨w.heap.size, 1, none⟩ = some (.int .i64 x.f1) := (blk_cell hxb 1).trans rfl
                have hx2 : w1.cell? ⟨w.heap.size, 2, none⟩ = some (.string x.f2) := (blk_cell hxb 2).trans rfl
                have k3 : w1.cell? ⟨w.heap.size + 1, 3, none⟩ = some (.pointer none) := (blk_cell hbx 3).trans rfl
                have f3 : w1.frozen? ⟨w.heap.size + 1, 3, none⟩ = false := blk_frozen hbx 3
                have HBX := Lib.hid hbx
                have HXB := Lib.hid hxb
                have HB1 := Lib.hid (show Below w.heap.size w w1 from below_step (by repeat (first | exact Below.refl _ _ | apply pw_below_drewN | apply below_drew1 | apply below_alloc)) hb)
                clear hbx hxb
                have HA := Lib.hid ha
                have HR1 := Lib.hid hr1
                clear ha hr1
                go_wp2
                go_ret2
                refine ⟨below_set HB1.out (by omega), w.heap.size + 1, A2, c2, rfl, ⟨g1, by omega, ?_, ?_⟩, HR1.out, hc2_⟩
                · exact (blk_set HBX.out 3 _)
                · exact XAt.step (fun q h _ => Below.heap_setCell w1 ⟨w.heap.size + 1, 3, none⟩ _ q (by simp at h ⊢; omega)) (by simp; omega) HA.out
              | false =>
                have b4 := hb34 rfl
                clear hb34
                go_enter Try.func46, Try.ntmps46
                go_wp2
                go_region
                go_wp2_with fail
                refine (IH.out l A1 (c - 1) _ (by omega) HSL.out (below_step HW.out (by repeat (first | exact Below.refl _ _ | apply pw_below_drewN | apply below_drew1 | apply below_alloc))) HD.out (by omega)).mono ?_
                rw [HQ.out]
                rintro e w1 ⟨hb, g1, A2, c2, rfl, ha, hr1, hc2_⟩
                have hbx := (hb.block (w.heap.size + 1) (by simp)).trans (show _ = some (Obj.cells #[.int .i64 x.f0, .int .i64 x.f1, .string x.f2, .pointer none, .pointer none] 75 (0, 0)) from blk_drew (by simpa using blk_new (w.alloc _) _))
                have hxb := (hb.block w.heap.size (by simp; omega)).trans (show _ = some (Obj.cells #[.int .i64 x.f0, .int .i64 x.f1, .string x.f2] 60 (0, 0)) from blk_drew (blk_alloc (blk_new w _) _))
                have hx1 : w1.cell? ⟨w.heap.size, 1, none⟩ = some (.int .i64 x.f1) := (blk_cell hxb 1).trans rfl
                have hx2 : w1.cell? ⟨w.heap.size, 2, none⟩ = some (.string x.f2) := (blk_cell hxb 2).trans rfl
                have k3 : w1.cell? ⟨w.heap.size + 1, 3, none⟩ = some (.pointer none) := (blk_cell hbx 3).trans rfl
                have f3 : w1.frozen? ⟨w.heap.size + 1, 3, none⟩ = false := blk_frozen hbx 3
                have HBX := Lib.hid hbx
                have HXB := Lib.hid hxb
                have HB1 := Lib.hid (show Below w.heap.size w w1 from below_step (by repeat (first | exact Below.refl _ _ | apply pw_below_drewN | apply below_drew1 | apply below_alloc)) hb)
                clear hbx hxb
                have HA := Lib.hid ha
                have HR1 := Lib.hid hr1
                clear ha hr1
                go_wp2
                go_ret2
                refine ⟨below_set HB1.out (by omega), w.heap.size + 1, A2, c2, rfl, ⟨g1, by omega, ?_, ?_⟩, HR1.out, hc2_⟩
                · exact (blk_set HBX.out 3 _)
                · exact XAt.step (fun q h _ => Below.heap_setCell w1 ⟨w.heap.size + 1, 3, none⟩ _ q (by simp at h ⊢; omega)) (by simp; omega) HA.out
            | false =>
              have e : xparse (k + 1) (x :: l) = none := by simp only [xparse, if_neg a, if_neg a2, if_pos a3, hq]; rw [if_neg (fun z => by have := z.2; unfold noText at this; rw [es] at this; cases this)]
              rw [e]
              clear hq e h a a2 a3 hl1
              cases b34 with
              | true =>
                clear hb34
                go_enter Try.func46, Try.ntmps46
                go_wp2
                go_region
                go_wp2_with fail
                refine (IH.out l A1 (c - 1) _ (by omega) HSL.out (below_step HW.out (by repeat (first | exact Below.refl _ _ | apply pw_below_drewN | apply below_drew1 | apply below_alloc))) HD.out (by omega)).mono ?_
                rw [HQ.out]
                rintro e w1 ⟨hb, g1, A2, c2, rfl, ha, hr1, hc2_⟩
                have hbx := (hb.block (w.heap.size + 1) (by simp)).trans (show _ = some (Obj.cells #[.int .i64 x.f0, .int .i64 x.f1, .string x.f2, .pointer none, .pointer none] 75 (0, 0)) from blk_drew (by simpa using blk_new (w.alloc _) _))
                have hxb := (hb.block w.heap.size (by simp; omega)).trans (show _ = some (Obj.cells #[.int .i64 x.f0, .int .i64 x.f1, .string x.f2] 60 (0, 0)) from blk_drew (blk_alloc (blk_new w _) _))
                have hx1 : w1.cell? ⟨w.heap.size, 1, none⟩ = some (.int .i64 x.f1) := (blk_cell hxb 1).trans rfl
                have hx2 : w1.cell? ⟨w.heap.size, 2, none⟩ = some (.string x.f2) := (blk_cell hxb 2).trans rfl
                have k3 : w1.cell? ⟨w.heap.size + 1, 3, none⟩ = some (.pointer none) := (blk_cell hbx 3).trans rfl
                have f3 : w1.frozen? ⟨w.heap.size + 1, 3, none⟩ = false := blk_frozen hbx 3
                have HBX := Lib.hid hbx
                have HXB := Lib.hid hxb
                have HB1 := Lib.hid (show Below w.heap.size w w1 from below_step (by repeat (first | exact Below.refl _ _ | apply pw_below_drewN | apply below_drew1 | apply below_alloc)) hb)
                clear hbx hxb
                have HA := Lib.hid ha
                have HR1 := Lib.hid hr1
                clear ha hr1
                go_wp2
                go_ret2
                exact ⟨below_set HB1.out (by omega), rfl⟩
              | false =>
                have b4 := hb34 rfl
                clear hb34
                go_enter Try.func46, Try.ntmps46
                go_wp2
                go_region
                go_wp2_with fail
                refine (IH.out l A1 (c - 1) _ (by omega) HSL.out (below_step HW.out (by repeat (first | exact Below.refl _ _ | apply pw_below_drewN | apply below_drew1 | apply below_alloc))) HD.out (by omega)).mono ?_
                rw [HQ.out]
                rintro e w1 ⟨hb, g1, A2, c2, rfl, ha, hr1, hc2_⟩
                have hbx := (hb.block (w.heap.size + 1) (by simp)).trans (show _ = some (Obj.cells #[.int .i64 x.f0, .int .i64 x.f1, .string x.f2, .pointer none, .pointer none] 75 (0, 0)) from blk_drew (by simpa using blk_new (w.alloc _) _))
                have hxb := (hb.block w.heap.size (by simp; omega)).trans (show _ = some (Obj.cells #[.int .i64 x.f0, .int .i64 x.f1, .string x.f2] 60 (0, 0)) from blk_drew (blk_alloc (blk_new w _) _))
                have hx1 : w1.cell? ⟨w.heap.size, 1, none⟩ = some (.int .i64 x.f1) := (blk_cell hxb 1).trans rfl
                have hx2 : w1.cell? ⟨w.heap.size, 2, none⟩ = some (.string x.f2) := (blk_cell hxb 2).trans rfl
                have k3 : w1.cell? ⟨w.heap.size + 1, 3, none⟩ = some (.pointer none) := (blk_cell hbx 3).trans rfl
                have f3 : w1.frozen? ⟨w.heap.size + 1, 3, none⟩ = false := blk_frozen hbx 3
                have HBX := Lib.hid hbx
                have HXB := Lib.hid hxb
                have HB1 := Lib.hid (show Below w.heap.size w w1 from below_step (by repeat (first | exact Below.refl _ _ | apply pw_below_drewN | apply below_drew1 | apply below_alloc)) hb)
                clear hbx hxb
                have HA := Lib.hid ha
                have HR1 := Lib.hid hr1
                clear ha hr1
                go_wp2
                go_ret2
                exact ⟨below_set HB1.out (by omega), rfl⟩
          · have z1 : (x.f1 == 0) = false := by simp [h]
            have e : xparse (k + 1) (x :: l) = none := by simp only [xparse, if_neg a, if_neg a2, if_pos a3, hq]; rw [if_neg (fun z => h z.1)]
            rw [e]
            clear hq e h a a2 a3 hl1
            cases b34 with
            | true =>
              clear hb34
              go_enter Try.func46, Try.ntmps46
              go_wp2
              go_region
              go_wp2_with fail
              refine (IH.out l A1 (c - 1) _ (by omega) HSL.out (below_step HW.out (by repeat (first | exact Below.refl _ _ | apply pw_below_drewN | apply below_drew1 | apply below_alloc))) HD.out (by omega)).mono ?_
              rw [HQ.out]
              rintro e w1 ⟨hb, g1, A2, c2, rfl, ha, hr1, hc2_⟩
              have hbx := (hb.block (w.heap.size + 1) (by simp)).trans (show _ = some (Obj.cells #[.int .i64 x.f0, .int .i64 x.f1, .string x.f2, .pointer none, .pointer none] 75 (0, 0)) from blk_drew (by simpa using blk_new (w.alloc _) _))
              have hxb := (hb.block w.heap.size (by simp; omega)).trans (show _ = some (Obj.cells #[.int .i64 x.f0, .int .i64 x.f1, .string x.f2] 60 (0, 0)) from blk_drew (blk_alloc (blk_new w _) _))
              have hx1 : w1.cell? ⟨w.heap.size, 1, none⟩ = some (.int .i64 x.f1) := (blk_cell hxb 1).trans rfl
              have hx2 : w1.cell? ⟨w.heap.size, 2, none⟩ = some (.string x.f2) := (blk_cell hxb 2).trans rfl
              have k3 : w1.cell? ⟨w.heap.size + 1, 3, none⟩ = some (.pointer none) := (blk_cell hbx 3).trans rfl
              have f3 : w1.frozen? ⟨w.heap.size + 1, 3, none⟩ = false := blk_frozen hbx 3
              have HBX := Lib.hid hbx
              have HXB := Lib.hid hxb
              have HB1 := Lib.hid (show Below w.heap.size w w1 from below_step (by repeat (first | exact Below.refl _ _ | apply pw_below_drewN | apply below_drew1 | apply below_alloc)) hb)
              clear hbx hxb
              have HA := Lib.hid ha
              have HR1 := Lib.hid hr1
              clear ha hr1
              go_wp2
              go_ret2
              exact ⟨below_set HB1.out (by omega), rfl⟩
            | false =>
              have b4 := hb34 rfl
              clear hb34
              go_enter Try.func46, Try.ntmps46
              go_wp2
              go_region
              go_wp2_with fail
              refine (IH.out l A1 (c - 1) _ (by omega) HSL.out (below_step HW.out (by repeat (first | exact Below.refl _ _ | apply pw_below_drewN | apply below_drew1 | apply below_alloc))) HD.out (by omega)).mono ?_
              rw [HQ.out]
              rintro e w1 ⟨hb, g1, A2, c2, rfl, ha, hr1, hc2_⟩
              have hbx := (hb.block (w.heap.size + 1) (by simp)).trans (show _ = some (Obj.cells #[.int .i64 x.f0, .int .i64 x.f1, .string x.f2, .pointer none, .pointer none] 75 (0, 0)) from blk_drew (by simpa using blk_new (w.alloc _) _))
              have hxb := (hb.block w.heap.size (by simp; omega)).trans (show _ = some (Obj.cells #[.int .i64 x.f0, .int .i64 x.f1, .string x.f2] 60 (0, 0)) from blk_drew (blk_alloc (blk_new w _) _))
              have hx1 : w1.cell? ⟨w.heap.size, 1, none⟩ = some (.int .i64 x.f1) := (blk_cell hxb 1).trans rfl
              have hx2 : w1.cell? ⟨w.heap.size, 2, none⟩ = some (.string x.f2) := (blk_cell hxb 2).trans rfl
              have k3 : w1.cell? ⟨w.heap.size + 1, 3, none⟩ = some (.pointer none) := (blk_cell hbx 3).trans rfl
              have f3 : w1.frozen? ⟨w.heap.size + 1, 3, none⟩ = false := blk_frozen hbx 3
              have HBX := Lib.hid hbx
              have HXB := Lib.hid hxb
              have HB1 := Lib.hid (show Below w.heap.size w w1 from below_step (by repeat (first | exact Below.refl _ _ | apply pw_below_drewN | apply below_drew1 | apply below_alloc)) hb)
              clear hbx hxb
              have HA := Lib.hid ha
              have HR1 := Lib.hid hr1
              clear ha hr1
              go_wp2
              go_ret2
              exact ⟨below_set HB1.out (by omega), rfl⟩
      have b3 : (x.f0 == 3) = false := by simp; exact fun z => a3 (.inl z)
      have b4 : (x.f0 == 4) = false := by simp; exact fun z => a3 (.inr z)
      by_cases a5 : x.f0 = 5
      · have b5 : (x.f0 == 5) = true := by simp [a5]
        cases hq : xparse k l with
        | none =>
          have e : xparse (k + 1) (x :: l) = none := by simp only [xparse, if_neg a, if_neg a2, if_neg a3, if_pos a5, hq]
          rw [e]
          have HQ := Lib.hid hq
          clear hq e a a2 a3 a5
          go_enter Try.func46, Try.ntmps46
          go_wp2
          go_region
          go_wp2_with fail
          refine (IH.out l A1 (c - 1) _ (by omega) HSL.out (below_step HW.out (by repeat (first | exact Below.refl _ _ | apply pw_below_drewN | apply below_drew1 | apply below_alloc))) HD.out (by omega)).mono ?_
          rw [HQ.out]
          rintro e w1 ⟨hb, rfl⟩
          have hbx := (hb.block (w.heap.size + 1) (by simp)).trans (show _ = some (Obj.cells #[.int .i64 x.f0, .int .i64 x.f1, .string x.f2, .pointer none, .pointer none] 75 (0, 0)) from blk_drew (by simpa using blk_new (w.alloc _) _))
          have hxb := (hb.block w.heap.size (by simp; omega)).trans (show _ = some (Obj.cells #[.int .i64 x.f0, .int .i64 x.f1, .string x.f2] 60 (0, 0)) from blk_drew (blk_alloc (blk_new w _) _))
          have hx1 : w1.cell? ⟨w.heap.size, 1, none⟩ = some (.int .i64 x.f1) := (blk_cell hxb 1).trans rfl
          have hx2 : w1.cell? ⟨w.heap.size, 2, none⟩ = some (.string x.f2) := (blk_cell hxb 2).trans rfl
          have k3 : w1.cell? ⟨w.heap.size + 1, 3, none⟩ = some (.pointer none) := (blk_cell hbx 3).trans rfl
          have f3 : w1.frozen? ⟨w.heap.size + 1, 3, none⟩ = false := blk_frozen hbx 3
          have HBX := Lib.hid hbx
          have HXB := Lib.hid hxb
          have HB1 := Lib.hid (show Below w.heap.size w w1 from below_step (by repeat (first | exact Below.refl _ _ | apply pw_below_drewN | apply below_drew1 | apply below_alloc)) hb)
          clear hbx hxb
          go_wp2
          go_ret2
          exact ⟨below_set HB1.out (by omega), rfl⟩
        | some q =>
          obtain ⟨ta, r1⟩ := q
          have hl1 := xparse_len _ _ _ _ hq
          have HQ := Lib.hid hq
          obtain ⟨sn, sa, hsg⟩ := strength_sign x.f2
          cases hq2 : xparse k r1 with
          | none =>
            have e : xparse (k + 1) (x :: l) = none := by simp only [xparse, if_neg a, if_neg a2, if_neg a3, if_pos a5, hq, hq2]
            generalize signB x.f2 = sg at hsg
            have HSG := Lib.hid hsg
            rw [e]
            have HQ2 := Lib.hid hq2
            clear hq hq2 e a a2 a3 a5 hsg
            go_enter Try.func46, Try.ntmps46
            go_wp2
            go_region
            go_wp2_with fail
            refine (IH.out l A1 (c - 1) _ (by omega) HSL.out (below_step HW.out (by repeat (first | exact Below.refl _ _ | apply pw_below_drewN | apply below_drew1 | apply below_alloc))) HD.out (by omega)).mono ?_
            rw [HQ.out]
            rintro e w1 ⟨hb, g1, A2, c2, rfl, ha, hr1, hc2_⟩
            have hbx := (hb.block (w.heap.size + 1) (by simp)).trans (show _ = some (Obj.cells #[.int .i64 x.f0, .int .i64 x.f1, .string x.f2, .pointer none, .pointer none] 75 (0, 0)) from blk_drew (by simpa using blk_new (w.alloc _) _))
            have hxb := (hb.block w.heap.size (by simp; omega)).trans (show _ = some (Obj.cells #[.int .i64 x.f0, .int .i64 x.f1, .string x.f2] 60 (0, 0)) from blk_drew (blk_alloc (blk_new w _) _))
            have hx1 : w1.cell? ⟨w.heap.size, 1, none⟩ = some (.int .i64 x.f1) := (blk_cell hxb 1).trans rfl
            have hx2 : w1.cell? ⟨w.heap.size, 2, none⟩ = some (.string x.f2) := (blk_cell hxb 2).trans rfl
            have k3 : w1.cell? ⟨w.heap.size + 1, 3, none⟩ = some (.pointer none) := (blk_cell hbx 3).trans rfl
            have f3 : w1.frozen? ⟨w.heap.size + 1, 3, none⟩ = false := blk_frozen hbx 3
            have HBX := Lib.hid hbx
            have HXB := Lib.hid hxb
            have HB1 := Lib.hid (show Below w.heap.size w w1 from below_step (by repeat (first | exact Below.refl _ _ | apply pw_below_drewN | apply below_drew1 | apply below_alloc)) hb)
            clear hbx hxb
            have HA := Lib.hid ha
            have HR1 := Lib.hid hr1
            clear ha hr1
            have hS1 : ∀ v, (w1.setCell ⟨w.heap.size + 1, 3, none⟩ v).heap.size = w1.heap.size := fun v => by simp
            have hW1 : w.heap.size + 1 < w1.heap.size := blk_lt HBX.out
            have cc3 : (w1.setCell ⟨w.heap.size + 1, 3, none⟩ (.pointer (some ⟨g1, 0, none⟩))).cell? ⟨w.heap.size + 1, 3, none⟩ = some (.pointer (some ⟨g1, 0, none⟩)) := (blk_cell (blk_set HBX.out 3 _) 3).trans rfl
            go_wp2_with fail
            refine (IH.out r1 A2 c2 _ (by omega) (fun y hy => HSL.out y (hl1.2 y hy)) (below_step HW.out (below_set HB1.out (by omega))) HR1.out hc2_).mono ?_
            rw [HQ2.out]
            rintro e w2 ⟨hb2, rfl⟩
            have hbx2 := (hb2.block (w.heap.size + 1) (by rw [hS1]; omega)).trans (blk_set HBX.out 3 _)
            have hxb2 := (hb2.block w.heap.size (by rw [hS1]; omega)).trans ((Below.heap_setCell w1 ⟨w.heap.size + 1, 3, none⟩ (.pointer (some ⟨g1, 0, none⟩)) w.heap.size (by simp)).trans HXB.out)
            have hy1 : w2.cell? ⟨w.heap.size, 1, none⟩ = some (.int .i64 x.f1) := (blk_cell hxb2 1).trans rfl
            have hy2 : w2.cell? ⟨w.heap.size, 2, none⟩ = some (.string x.f2) := (blk_cell hxb2 2).trans rfl
            have k4 : w2.cell? ⟨w.heap.size + 1, 4, none⟩ = some (.pointer none) := (blk_cell hbx2 4).trans rfl
            have f4 : w2.frozen? ⟨w.heap.size + 1, 4, none⟩ = false := blk_frozen hbx2 4
            have HBX2 := Lib.hid hbx2
            have HB2 := Lib.hid (show Below w.heap.size w w2 from below_step (below_set HB1.out (by omega)) hb2)
            have hW2 : w1.heap.size ≤ w2.heap.size := by have := hb2.size; rwa [hS1] at this
            clear hbx2 hxb2 hx1 hx2 k3 f3
            go_wp2_with (go_at_call 9; refine (impl_StrengthOf.calls 10 x.f2 sn sa _ _ HSG.out).mono ?_; rintro e w3 ⟨rfl, ⟨nd, rfl⟩⟩)
            go_ret2
            exact ⟨pw_below_drewN (below_set HB2.out (by omega)) nd, rfl⟩
          | some q2 =>
            obtain ⟨tb, r2⟩ := q2
            have HQ2 := Lib.hid hq2
            by_cases h : x.f1 = 0
            · have z1 : (x.f1 == 0) = true := by simp [h]
              generalize hsv : signB x.f2 = sg at hsg
              cases sg with
              | true =>
                have e : xparse (k + 1) (x :: l) = some (.two x.f0 x.f1 x.f2 ta tb, r2) := by simp only [xparse, if_neg a, if_neg a2, if_neg a3, if_pos a5, hq, hq2]; rw [if_pos ⟨hsv, h⟩]
                rw [e]
                have HSG := Lib.hid hsg
                clear hq hq2 e h a a2 a3 a5 hsg hsv
                go_enter Try.func46, Try.ntmps46
                go_wp2
                go_region
                go_wp2_with fail
                refine (IH.out l A1 (c - 1) _ (by omega) HSL.out (below_step HW.out (by repeat (first | exact Below.refl _ _ | apply pw_below_drewN | apply below_drew1 | apply below_alloc))) HD.out (by omega)).mono ?_
                rw [HQ.out]
                rintro e w1 ⟨hb, g1, A2, c2, rfl, ha, hr1, hc2_⟩
                have hbx := (hb.block (w.heap.size + 1) (by simp)).trans (show _ = some (Obj.cells #[.int .i64 x.f0, .int .i64 x.f1, .string x.f2, .pointer none, .pointer none] 75 (0, 0)) from blk_drew (by simpa using blk_new (w.alloc _) _))
                have hxb := (hb.block w.heap.size (by simp; omega)).trans (show _ = some (Obj.cells #[.int .i64 x.f0, .int .i64 x.f1, .string x.f2] 60 (0, 0)) from blk_drew (blk_alloc (blk_new w _) _))
                have hx1 : w1.cell? ⟨w.heap.size, 1, none⟩ = some (.int .i64 x.f1) := (blk_cell hxb 1).trans rfl
                have hx2 : w1.cell? ⟨w.heap.size, 2, none⟩ = some (.string x.f2) := (blk_cell hxb 2).trans rfl
                have k3 : w1.cell? ⟨w.heap.size + 1, 3, none⟩ = some (.pointer none) := (blk_cell hbx 3).trans rfl
                have f3 : w1.frozen? ⟨w.heap.size + 1, 3, none⟩ = false := blk_frozen hbx 3
                have HBX := Lib.hid hbx
                have HXB := Lib.hid hxb
                have HB1 := Lib.hid (show Below w.heap.size w w1 from below_step (by repeat (first | exact Below.refl _ _ | apply pw_below_drewN | apply below_drew1 | apply below_alloc)) hb)
                clear hbx hxb
                have HA := Lib.hid ha
                have HR1 := Lib.hid hr1
                clear ha hr1
                have hS1 : ∀ v, (w1.setCell ⟨w.heap.size + 1, 3, none⟩ v).heap.size = w1.heap.size := fun v => by simp
                have hW1 : w.heap.size + 1 < w1.heap.size := blk_lt HBX.out
                have cc3 : (w1.setCell ⟨w.heap.size + 1, 3, none⟩ (.pointer (some ⟨g1, 0, none⟩))).cell? ⟨w.heap.size + 1, 3, none⟩ = some (.pointer (some ⟨g1, 0, none⟩)) := (blk_cell (blk_set HBX.out 3 _) 3).trans rfl
                go_wp2_with fail
                refine (IH.out r1 A2 c2 _ (by omega) (fun y hy => HSL.out y (hl1.2 y hy)) (below_step HW.out (below_set HB1.out (by omega))) HR1.out hc2_).mono ?_
                rw [HQ2.out]
                rintro e w2 ⟨hb2, g2, A3, c3, rfl, ha2, hr2, hc3_⟩
                have hbx2 := (hb2.block (w.heap.size + 1) (by rw [hS1]; omega)).trans (blk_set HBX.out 3 _)
                have hxb2 := (hb2.block w.heap.size (by rw [hS1]; omega)).trans ((Below.heap_setCell w1 ⟨w.heap.size + 1, 3, none⟩ (.pointer (some ⟨g1, 0, none⟩)) w.heap.size (by simp)).trans HXB.out)
                have hy1 : w2.cell? ⟨w.heap.size, 1, none⟩ = some (.int .i64 x.f1) := (blk_cell hxb2 1).trans rfl
                have hy2 : w2.cell? ⟨w.heap.size, 2, none⟩ = some (.string x.f2) := (blk_cell hxb2 2).trans rfl
                have k4 : w2.cell? ⟨w.heap.size + 1, 4, none⟩ = some (.pointer none) := (blk_cell hbx2 4).trans rfl
                have f4 : w2.frozen? ⟨w.heap.size + 1, 4, none⟩ = false := blk_frozen hbx2 4
                have HBX2 := Lib.hid hbx2
                have HB2 := Lib.hid (show Below w.heap.size w w2 from below_step (below_set HB1.out (by omega)) hb2)
                have hW2 : w1.heap.size ≤ w2.heap.size := by have := hb2.size; rwa [hS1] at this
                clear hbx2 hxb2 hx1 hx2 k3 f3
                have HA2 := Lib.hid ha2
                have HR2 := Lib.hid hr2
                have HBB := Lib.hid hb2
                clear ha2 hr2 hb2
                go_wp2_with (go_at_call 9; refine (impl_StrengthOf.calls 10 x.f2 sn sa _ _ HSG.out).mono ?_; rintro e w3 ⟨rfl, ⟨nd, rfl⟩⟩)
                go_ret2
                refine ⟨pw_below_drewN (below_set HB2.out (by omega)) nd, w.heap.size + 1, A3, c3, rfl, ⟨g1, g2, by omega, ?_, ?_, ?_⟩, HR2.out, hc3_⟩
                · exact blk_drewN (blk_set HBX2.out 4 _) nd
                · refine XAt.below ?_ (pw_below_drewN (Below.refl _ _) nd)
                  exact XAt.step (b := w.heap.size + 2) (b' := w.heap.size) (fun q h _ => Below.heap_setCell w2 ⟨w.heap.size + 1, 4, none⟩ _ q (by show q ≠ w.heap.size + 1; omega)) (by omega) (XAt.below (XAt.step (b := w.heap.size + 2) (b' := w.heap.size + 2) (fun q h _ => Below.heap_setCell w1 ⟨w.heap.size + 1, 3, none⟩ _ q (by show q ≠ w.heap.size + 1; omega)) (Nat.le_refl _) (show XAt (w.heap.size + 2) w1 g1 ta by simpa using HA.out)) HBB.out)
                · refine XAt.below ?_ (pw_below_drewN (Below.refl _ _) nd)
                  exact XAt.step (b := w1.heap.size) (b' := w.heap.size) (fun q h _ => Below.heap_setCell w2 ⟨w.heap.size + 1, 4, none⟩ _ q (by show q ≠ w.heap.size + 1; omega)) (by omega) (show XAt w1.heap.size w2 g2 tb by have := HA2.out; rwa [hS1] at this)
              | false =>
                have e : xparse (k + 1) (x :: l) = none := by simp only [xparse, if_neg a, if_neg a2, if_neg a3, if_pos a5, hq, hq2]; rw [if_neg (fun z => by have := z.1; rw [hsv] at this; cases this)]
                rw [e]
                have HSG := Lib.hid hsg
                clear hq hq2 e h a a2 a3 a5 hsg hsv
                go_enter Try.func46, Try.ntmps46
                go_wp2
                go_region
                go_wp2_with fail
                refine (IH.out l A1 (c - 1) _ (by omega) HSL.out (below_step HW.out (by repeat (first | exact Below.refl _ _ | apply pw_below_drewN | apply below_drew1 | apply below_alloc))) HD.out (by omega)).mono ?_
                rw [HQ.out]
                rintro e w1 ⟨hb, g1, A2, c2, rfl, ha, hr1, hc2_⟩
                have hbx := (hb.block (w.heap.size + 1) (by simp)).trans (show _ = some (Obj.cells #[.int .i64 x.f0, .int .i64 x.f1, .string x.f2, .pointer none, .pointer none] 75 (0, 0)) from blk_drew (by simpa using blk_new (w.alloc _) _))
                have hxb := (hb.block w.heap.size (by simp; omega)).trans (show _ = some (Obj.cells #[.int .i64 x.f0, .int .i64 x.f1, .string x.f2] 60 (0, 0)) from blk_drew (blk_alloc (blk_new w _) _))
                have hx1 : w1.cell? ⟨w.heap.size, 1, none⟩ = some (.int .i64 x.f1) := (blk_cell hxb 1).trans rfl
                have hx2 : w1.cell? ⟨w.heap.size, 2, none⟩ = some (.string x.f2) := (blk_cell hxb 2).trans rfl
                have k3 : w1.cell? ⟨w.heap.size + 1, 3, none⟩ = some (.pointer none) := (blk_cell hbx 3).trans rfl
                have f3 : w1.frozen? ⟨w.heap.size + 1, 3, none⟩ = false := blk_frozen hbx 3
                have HBX := Lib.hid hbx
                have HXB := Lib.hid hxb
                have HB1 := Lib.hid (show Below w.heap.size w w1 from below_step (by repeat (first | exact Below.refl _ _ | apply pw_below_drewN | apply below_drew1 | apply below_alloc)) hb)
                clear hbx hxb
                have HA := Lib.hid ha
                have HR1 := Lib.hid hr1
                clear ha hr1
                have hS1 : ∀ v, (w1.setCell ⟨w.heap.size + 1, 3, none⟩ v).heap.size = w1.heap.size := fun v => by simp
                have hW1 : w.heap.size + 1 < w1.heap.size := blk_lt HBX.out
                have cc3 : (w1.setCell ⟨w.heap.size + 1, 3, none⟩ (.pointer (some ⟨g1, 0, none⟩))).cell? ⟨w.heap.size + 1, 3, none⟩ = some (.pointer (some ⟨g1, 0, none⟩)) := (blk_cell (blk_set HBX.out 3 _) 3).trans rfl
                go_wp2_with fail
                refine (IH.out r1 A2 c2 _ (by omega) (fun y hy => HSL.out y (hl1.2 y hy)) (below_step HW.out (below_set HB1.out (by omega))) HR1.out hc2_).mono ?_
                rw [HQ2.out]
                rintro e w2 ⟨hb2, g2, A3, c3, rfl, ha2, hr2, hc3_⟩
                have hbx2 := (hb2.block (w.heap.size + 1) (by rw [hS1]; omega)).trans (blk_set HBX.out 3 _)
                have hxb2 := (hb2.block w.heap.size (by rw [hS1]; omega)).trans ((Below.heap_setCell w1 ⟨w.heap.size + 1, 3, none⟩ (.pointer (some ⟨g1, 0, none⟩)) w.heap.size (by simp)).trans HXB.out)
                have hy1 : w2.cell? ⟨w.heap.size, 1, none⟩ = some (.int .i64 x.f1) := (blk_cell hxb2 1).trans rfl
                have hy2 : w2.cell? ⟨w.heap.size, 2, none⟩ = some (.string x.f2) := (blk_cell hxb2 2).trans rfl
                have k4 : w2.cell? ⟨w.heap.size + 1, 4, none⟩ = some (.pointer none) := (blk_cell hbx2 4).trans rfl
                have f4 : w2.frozen? ⟨w.heap.size + 1, 4, none⟩ = false := blk_frozen hbx2 4
                have HBX2 := Lib.hid hbx2
                have HB2 := Lib.hid (show Below w.heap.size w w2 from below_step (below_set HB1.out (by omega)) hb2)
                have hW2 : w1.heap.size ≤ w2.heap.size := by have := hb2.size; rwa [hS1] at this
                clear hbx2 hxb2 hx1 hx2 k3 f3
                have HA2 := Lib.hid ha2
                have HR2 := Lib.hid hr2
                have HBB := Lib.hid hb2
                clear ha2 hr2 hb2
                go_wp2_with (go_at_call 9; refine (impl_StrengthOf.calls 10 x.f2 sn sa _ _ HSG.out).mono ?_; rintro e w3 ⟨rfl, ⟨nd, rfl⟩⟩)
                go_ret2
                exact ⟨pw_below_drewN (below_set HB2.out (by omega)) nd, rfl⟩
            · have z1 : (x.f1 == 0) = false := by simp [h]
              generalize hsv : signB x.f2 = sg at hsg
              have e : xparse (k + 1) (x :: l) = none := by simp only [xparse, if_neg a, if_neg a2, if_neg a3, if_pos a5, hq, hq2]; rw [if_neg (fun z => h z.2)]
              cases sg with
              | true =>
                rw [e]
                have HSG := Lib.hid hsg
                clear hq hq2 e h a a2 a3 a5 hsg hsv
                go_enter Try.func46, Try.ntmps46
                go_wp2
                go_region
                go_wp2_with fail
                refine (IH.out l A1 (c - 1) _ (by omega) HSL.out (below_step HW.out (by repeat (first | exact Below.refl _ _ | apply pw_below_drewN | apply below_drew1 | apply below_alloc))) HD.out (by omega)).mono ?_
                rw [HQ.out]
                rintro e w1 ⟨hb, g1, A2, c2, rfl, ha, hr1, hc2_⟩
                have hbx := (hb.block (w.heap.size + 1) (by simp)).trans (show _ = some (Obj.cells #[.int .i64 x.f0, .int .i64 x.f1, .string x.f2, .pointer none, .pointer none] 75 (0, 0)) from blk_drew (by simpa using blk_new (w.alloc _) _))
                have hxb := (hb.block w.heap.size (by simp; omega)).trans (show _ = some (Obj.cells #[.int .i64 x.f0, .int .i64 x.f1, .string x.f2] 60 (0, 0)) from blk_drew (blk_alloc (blk_new w _) _))
                have hx1 : w1.cell? ⟨w.heap.size, 1, none⟩ = some (.int .i64 x.f1) := (blk_cell hxb 1).trans rfl
                have hx2 : w1.cell? ⟨w.heap.size, 2, none⟩ = some (.string x.f2) := (blk_cell hxb 2).trans rfl
                have k3 : w1.cell? ⟨w.heap.size + 1, 3, none⟩ = some (.pointer none) := (blk_cell hbx 3).trans rfl
                have f3 : w1.frozen? ⟨w.heap.size + 1, 3, none⟩ = false := blk_frozen hbx 3
                have HBX := Lib.hid hbx
                have HXB := Lib.hid hxb
                have HB1 := Lib.hid (show Below w.heap.size w w1 from below_step (by repeat (first | exact Below.refl _ _ | apply pw_below_drewN | apply below_drew1 | apply below_alloc)) hb)
                clear hbx hxb
                have HA := Lib.hid ha
                have HR1 := Lib.hid hr1
                clear ha hr1
                have hS1 : ∀ v, (w1.setCell ⟨w.heap.size + 1, 3, none⟩ v).heap.size = w1.heap.size := fun v => by simp
                have hW1 : w.heap.size + 1 < w1.heap.size := blk_lt HBX.out
                have cc3 : (w1.setCell ⟨w.heap.size + 1, 3, none⟩ (.pointer (some ⟨g1, 0, none⟩))).cell? ⟨w.heap.size + 1, 3, none⟩ = some (.pointer (some ⟨g1, 0, none⟩)) := (blk_cell (blk_set HBX.out 3 _) 3).trans rfl
                go_wp2_with fail
                refine (IH.out r1 A2 c2 _ (by omega) (fun y hy => HSL.out y (hl1.2 y hy)) (below_step HW.out (below_set HB1.out (by omega))) HR1.out hc2_).mono ?_
                rw [HQ2.out]
                rintro e w2 ⟨hb2, g2, A3, c3, rfl, ha2, hr2, hc3_⟩
                have hbx2 := (hb2.block (w.heap.size + 1) (by rw [hS1]; omega)).trans (blk_set HBX.out 3 _)
                have hxb2 := (hb2.block w.heap.size (by rw [hS1]; omega)).trans ((Below.heap_setCell w1 ⟨w.heap.size + 1, 3, none⟩ (.pointer (some ⟨g1, 0, none⟩)) w.heap.size (by simp)).trans HXB.out)
                have hy1 : w2.cell? ⟨w.heap.size, 1, none⟩ = some (.int .i64 x.f1) := (blk_cell hxb2 1).trans rfl
                have hy2 : w2.cell? ⟨w.heap.size, 2, none⟩ = some (.string x.f2) := (blk_cell hxb2 2).trans rfl
                have k4 : w2.cell? ⟨w.heap.size + 1, 4, none⟩ = some (.pointer none) := (blk_cell hbx2 4).trans rfl
                have f4 : w2.frozen? ⟨w.heap.size + 1, 4, none⟩ = false := blk_frozen hbx2 4
                have HBX2 := Lib.hid hbx2
                have HB2 := Lib.hid (show Below w.heap.size w w2 from below_step (below_set HB1.out (by omega)) hb2)
                have hW2 : w1.heap.size ≤ w2.heap.size := by have := hb2.size; rwa [hS1] at this
                clear hbx2 hxb2 hx1 hx2 k3 f3
                have HA2 := Lib.hid ha2
                have HR2 := Lib.hid hr2
                have HBB := Lib.hid hb2
                clear ha2 hr2 hb2
                go_wp2_with (go_at_call 9; refine (impl_StrengthOf.calls 10 x.f2 sn sa _ _ HSG.out).mono ?_; rintro e w3 ⟨rfl, ⟨nd, rfl⟩⟩)
                go_ret2
                exact ⟨pw_below_drewN (below_set HB2.out (by omega)) nd, rfl⟩
              | false =>
                rw [e]
                have HSG := Lib.hid hsg
                clear hq hq2 e h a a2 a3 a5 hsg hsv
                go_enter Try.func46, Try.ntmps46
                go_wp2
                go_region
                go_wp2_with fail
                refine (IH.out l A1 (c - 1) _ (by omega) HSL.out (below_step HW.out (by repeat (first | exact Below.refl _ _ | apply pw_below_drewN | apply below_drew1 | apply below_alloc))) HD.out (by omega)).mono ?_
                rw [HQ.out]
                rintro e w1 ⟨hb, g1, A2, c2, rfl, ha, hr1, hc2_⟩
                have hbx := (hb.block (w.heap.size + 1) (by simp)).trans (show _ = some (Obj.cells #[.int .i64 x.f0, .int .i64 x.f1, .string x.f2, .pointer none, .pointer none] 75 (0, 0)) from blk_drew (by simpa using blk_new (w.alloc _) _))
                have hxb := (hb.block w.heap.size (by simp; omega)).trans (show _ = some (Obj.cells #[.int .i64 x.f0, .int .i64 x.f1, .string x.f2] 60 (0, 0)) from blk_drew (blk_alloc (blk_new w _) _))
                have hx1 : w1.cell? ⟨w.heap.size, 1, none⟩ = some (.int .i64 x.f1) := (blk_cell hxb 1).trans rfl
                have hx2 : w1.cell? ⟨w.heap.size, 2, none⟩ = some (.string x.f2) := (blk_cell hxb 2).trans rfl
                have k3 : w1.cell? ⟨w.heap.size + 1, 3, none⟩ = some (.pointer none) := (blk_cell hbx 3).trans rfl
                have f3 : w1.frozen? ⟨w.heap.size + 1, 3, none⟩ = false := blk_frozen hbx 3
                have HBX := Lib.hid hbx
                have HXB := Lib.hid hxb
                have HB1 := Lib.hid (show Below w.heap.size w w1 from below_step (by repeat (first | exact Below.refl _ _ | apply pw_below_drewN | apply below_drew1 | apply below_alloc)) hb)
                clear hbx hxb
                have HA := Lib.hid ha
                have HR1 := Lib.hid hr1
                clear ha hr1
                have hS1 : ∀ v, (w1.setCell ⟨w.heap.size + 1, 3, none⟩ v).heap.size = w1.heap.size := fun v => by simp
                have hW1 : w.heap.size + 1 < w1.heap.size := blk_lt HBX.out
                have cc3 : (w1.setCell ⟨w.heap.size + 1, 3, none⟩ (.pointer (some ⟨g1, 0, none⟩))).cell? ⟨w.heap.size + 1, 3, none⟩ = some (.pointer (some ⟨g1, 0, none⟩)) := (blk_cell (blk_set HBX.out 3 _) 3).trans rfl
                go_wp2_with fail
                refine (IH.out r1 A2 c2 _ (by omega) (fun y hy => HSL.out y (hl1.2 y hy)) (below_step HW.out (below_set HB1.out (by omega))) HR1.out hc2_).mono ?_
                rw [HQ2.out]
                rintro e w2 ⟨hb2, g2, A3, c3, rfl, ha2, hr2, hc3_⟩
                have hbx2 := (hb2.block (w.heap.size + 1) (by rw [hS1]; omega)).trans (blk_set HBX.out 3 _)
                have hxb2 := (hb2.block w.heap.size (by rw [hS1]; omega)).trans ((Below.heap_setCell w1 ⟨w.heap.size + 1, 3, none⟩ (.pointer (some ⟨g1, 0, none⟩)) w.heap.size (by simp)).trans HXB.out)
                have hy1 : w2.cell? ⟨w.heap.size, 1, none⟩ = some (.int .i64 x.f1) := (blk_cell hxb2 1).trans rfl
                have hy2 : w2.cell? ⟨w.heap.size, 2, none⟩ = some (.string x.f2) := (blk_cell hxb2 2).trans rfl
                have k4 : w2.cell? ⟨w.heap.size + 1, 4, none⟩ = some (.pointer none) := (blk_cell hbx2 4).trans rfl
                have f4 : w2.frozen? ⟨w.heap.size + 1, 4, none⟩ = false := blk_frozen hbx2 4
                have HBX2 := Lib.hid hbx2
                have HB2 := Lib.hid (show Below w.heap.size w w2 from below_step (below_set HB1.out (by omega)) hb2)
                have hW2 : w1.heap.size ≤ w2.heap.size := by have := hb2.size; rwa [hS1] at this
                clear hbx2 hxb2 hx1 hx2 k3 f3
                have HA2 := Lib.hid ha2
                have HR2 := Lib.hid hr2
                have HBB := Lib.hid hb2
                clear ha2 hr2 hb2
                go_wp2_with (go_at_call 9; refine (impl_StrengthOf.calls 10 x.f2 sn sa _ _ HSG.out).mono ?_; rintro e w3 ⟨rfl, ⟨nd, rfl⟩⟩)
                go_ret2
                exact ⟨pw_below_drewN (below_set HB2.out (by omega)) nd, rfl⟩
      · have b5 : (x.f0 == 5) = false := by simp [a5]
        have e : xparse (k + 1) (x :: l) = none := by simp only [xparse, if_neg a, if_neg a2, if_neg a3, if_neg a5]
        rw [e]
        clear e a a2 a3 a5
        go_enter Try.func46, Try.ntmps46
        go_wp2
        go_region
        go_wp2
        go_ret2
        exact ⟨by repeat (first | exact Below.refl _ _ | apply pw_below_drewN | apply below_drew1 | apply below_alloc), rfl⟩
end Go.Proofs.Ytkmobaffmlcaiaa.PAll
