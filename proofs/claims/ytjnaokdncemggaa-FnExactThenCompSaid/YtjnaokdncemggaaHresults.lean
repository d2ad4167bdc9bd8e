/- The reference's l9Results by its contract: it appends the results of a tree to a row that is handed on. -/
import Derived.Test.YtjnaokdncemggaaPAllx0
import Derived.Lib.Hide
import Derived.Deep.RegionLaw
import Derived.Deep.RegionWith
import Derived.Deep.RegionHeld3
namespace Go.Proofs.Ytjnaokdncemggaa.PAll
open Go.RowKit Go.Proofs.YtjnaokdncemggaaW.PrintWords Go.Proofs.YtjnaokdncemggaaW.PrintLast Go.Proofs.YtjnaokdncemggaaW.PrintMore
set_option linter.unusedVariables false
set_option linter.unusedSimpArgs false

theorem kept_cell {w W : World} {S : Nat → Prop} (h : Kept w W S) {p : Addr} (hn : ¬ S p.block) (hlt : p.block < w.heap.size) : W.cell? p = w.cell? p := by
  simp [World.cell?, h.2 _ hlt hn]

theorem kept_get93 {w : World} {S : Nat → Prop} {A : Option Addr} {n : Nat} {xs : List S93} (h : ∀ W, Kept w W S → Kd.C k93 W A n xs) (i : Int) (h0 : 0 ≤ i) (h1 : i < n) :
    ∃ ad A2 c2, A = some ad ∧ (∀ W, Kept w W S → W.cell? (ad.add (i.toNat * 3)) = some (.bool (rd_T93 xs i).f0) ∧ W.cell? ⟨(ad.add (i.toNat * 3)).block, (ad.add (i.toNat * 3)).off + 1, none⟩ = some (.int .i64 (rd_T93 xs i).f1) ∧ W.cell? ⟨(ad.add (i.toNat * 3)).block, (ad.add (i.toNat * 3)).off + 2, none⟩ = some (.slice A2 (rd_T93 xs i).f2.length c2)) ∧ (rd_T93 xs i).f2.length ≤ c2 ∧ ∀ W, Kept w W S → Kd.C k93 W A2 (rd_T93 xs i).f2.length (rd_T93 xs i).f2 := by
  obtain ⟨ad, A2, c2, rfl, p0, p1, p2, l2, g2⟩ := at_T93 (h w (Kept.refl w S)) i h0 h1
  have hn : ¬ S (ad.add (i.toNat * 3)).block := by
    intro hs
    have hk : Kept w (w.setCell ⟨(ad.add (i.toNat * 3)).block, (ad.add (i.toNat * 3)).off + 1, none⟩ (.pointer none)) S := Kept.setCell (p := ⟨(ad.add (i.toNat * 3)).block, (ad.add (i.toNat * 3)).off + 1, none⟩) (Kept.refl w S) (.inl hs) _
    obtain ⟨ad', A2', c2', he, q0, q1, q2, _⟩ := at_T93 (h _ hk) i h0 h1
    injection he with he
    subst he
    have := World.cell?_setCell_same' w ⟨(ad.add (i.toNat * 3)).block, (ad.add (i.toNat * 3)).off + 1, none⟩ (.pointer none) (by rw [p1]; rfl)
    rw [this] at q1
    cases q1
  have hlt := World.block_lt_of_cell? w _ p0
  refine ⟨ad, A2, c2, rfl, fun W hW => ⟨(kept_cell hW hn hlt).trans p0, (kept_cell hW (p := ⟨(ad.add (i.toNat * 3)).block, (ad.add (i.toNat * 3)).off + 1, none⟩) hn hlt).trans p1, (kept_cell hW (p := ⟨(ad.add (i.toNat * 3)).block, (ad.add (i.toNat * 3)).off + 2, none⟩) hn hlt).trans p2⟩, l2, fun W hW => ?_⟩
  obtain ⟨ad', A2', c2', he, q0, q1, q2, l2', g2'⟩ := at_T93 (h W hW) i h0 h1
  injection he with he
  subst he
  rw [(kept_cell hW (p := ⟨(ad.add (i.toNat * 3)).block, (ad.add (i.toNat * 3)).off + 2, none⟩) hn hlt).trans p2] at q2
  injection q2 with q2
  injection q2 with qa _ _
  rw [qa]
  exact g2'

def l9leaf (l1 : List Int) (a0_1 : Int) : Option (List Int) := if l1.length < 17592186044416 then (some (l1 ++ [a0_1])) else (none)
def l9res : Nat → Bool → Int → List S93 → List Int → Option (List Int)
  | 0, _, _, _, _ => none
  | k + 1, a0, n, l, out => if a0 = true then (if 1 < l.length then (l9res k (rd_T93 l 0).f0 (rd_T93 l 0).f1 (rd_T93 l 0).f2 out).bind fun t => l9res k (rd_T93 l 1).f0 (rd_T93 l 1).f1 (rd_T93 l 1).f2 t else none) else l9leaf out n

/-- What a call of l9Results does. -/
def L9Post (w0 w : World) (P1_ : Nat → Prop) (r : List Int) (e : Ending) (w' : World) : Prop := ∃ v0_ : Value, e = .returned (v0_) ∧ Kd.R (Kd.int .i64) 3 w' w0.heap.size (fun k_ => (P1_ k_ ∨ w.heap.size ≤ k_)) v0_ r ∧ Below w0.heap.size w0 w' ∧ Kept w w' (fun k_ => P1_ k_)

set_option maxHeartbeats 8000000 in
set_option maxRecDepth 100000 in
theorem l9leaf_calls (a0_1 : Int) (A0_2 : Option Addr) (c0_2 : Nat) (l0_2 : List (S93)) (P1_ : Nat → Prop) (u9000_ : Value) (l1 : List Int) (r : List Int) (w0 w : World) (hB : Below w0.heap.size w0 w) (hr0_2 : ∀ W_, Kept w W_ (fun k_ => P1_ k_) → Kd.C k93 W_ A0_2 l0_2.length l0_2) (hc0_2 : l0_2.length ≤ c0_2) (ho1 : Kd.R (Kd.int .i64) 3 w w0.heap.size P1_ u9000_ l1) (h : l9leaf l1 a0_1 = some r) :
    Calls Try.prog 70 #[.agg #[.bool false, .int .i64 a0_1, .slice A0_2 l0_2.length c0_2], u9000_] w (L9Post w0 w P1_ r) := by
  unfold L9Post
  have hu93 := Try.underlying93
  have HR0_2 := Aside0.mk hr0_2
  have HC0_2 := Aside0.mk hc0_2
  clear hr0_2 hc0_2
  have HO1 := Aside0.mk (show Kd.R (Kd.int .i64) 3 w w0.heap.size (fun k_ => (P1_ k_ ∨ w.heap.size ≤ k_)) u9000_ l1 from Kd.R_mono ho1 (fun k_ hk => (.inl hk)))
  have HK := Aside0.mk (Kept.refl w (fun k_ => P1_ k_))
  have HW0 := Aside0.mk hB.size
  have HB := Aside0.mk hB
  clear hB
  have H : (if l1.length < 17592186044416 then (some (l1 ++ [a0_1])) else (none)) = some r := h
  clear h
  by_cases c3 : l1.length < 17592186044416
  · rw [if_pos c3] at H
    have LMc3 := Aside0.mk c3
    clear c3
    obtain ⟨y314, hy314⟩ : ∃ y_ : List Int, y_ = (l1 ++ [a0_1]) := ⟨_, rfl⟩
    replace H : (some y314) = some r := by first | (rw [hy314]; with_reducible exact H) | (have H2_ := (Option.bind_some _ _).symm.trans H; rw [hy314]; with_reducible exact H2_) | (have H2_ := (Option.bind_some _ _).symm.trans H; with_reducible exact H2_) | with_reducible exact H | (rw [hy314]; exact H) | exact H
    have Ny314 := Aside0.mk hy314
    clear hy314
    obtain rfl := Option.some.inj H
    go_enter Try.func70, Try.ntmps70
    go_wp2_with (first | ((with_reducible refine gate_dst (N := 2) rfl ?_); refine box_event ?hg (N := 2) ?hd (cs := #[.bool false, .int .i64 a0_1, .slice A0_2 l0_2.length c0_2]) (t := 93) ?hr ?_; (case hd => rfl); (case hg => rfl); (case hr => first | (go_simp; done) | (go_simp; rfl)); intro gb313 hg w4 hbox hb; have n0_ := Aside0.mk (Kd.R_below (by (with_reducible repeat (first | apply Kd.R_alloc | apply Kd.R_drewN | apply Kd.R_drew)); exact HO1.out) hb); have n1_ := Aside0.mk (Kept.below (S := (fun k_ => P1_ k_)) (by repeat (first | (with_reducible first | exact HK.out | apply Kept.alloc | apply Kept.drewN | apply Kept.drew) | exact HK.out)) hb); have n2_ := Aside0.mk (below_step (by repeat (first | (with_reducible first | exact HB.out | apply below_alloc | apply pw_below_drewN | apply below_drew1) | exact HB.out)) hb); have n3_ := Aside0.mk (hbox); have n4_ := Aside0.mk ((by rw [hg]; exact (by first | exact HK.out.1 | exact (show Kept w _ (fun k_ => P1_ k_) from by repeat (first | (with_reducible first | exact HK.out | apply Kept.alloc | apply Kept.drewN | apply Kept.drew) | exact HK.out)).1) : w.heap.size ≤ gb313)); have n5_ := Aside0.mk ((by rw [hg]; exact (below_size (by repeat (first | (with_reducible first | exact HB.out | apply below_alloc | apply pw_below_drewN | apply below_drew1) | exact HB.out))) : w0.heap.size ≤ gb313)); clear HO1; clear HK; clear HB; have HO1 := n0_; have HK := n1_; have HB := n2_; have BK313 := n3_; have GW313 := n4_; have GE313 := n5_; clear n0_ n1_ n2_ n3_ n4_ n5_; clear hb hbox hg; have hcz5_0 : w4.cell? ⟨gb313, 0, none⟩ = some (.bool false) := (blk_cell BK313.out 0).trans rfl; have hcz5_1 : w4.cell? ⟨gb313, 1, none⟩ = some (.int .i64 a0_1) := (blk_cell BK313.out 1).trans rfl; have hcz5_2 : w4.cell? ⟨gb313, 2, none⟩ = some (.slice A0_2 l0_2.length c0_2) := (blk_cell BK313.out 2).trans rfl; have hfz5_0 := blk_frozen BK313.out 0; have hfz5_1 := blk_frozen BK313.out 1; have hfz5_2 := blk_frozen BK313.out 2) | ((with_reducible refine gate_builtin (b := .append) (xs := #[.tmp 8, .tmp 11]) rfl ?_); at_builtin; refine Kd.R_append (Kd.int .i64) (w0 := w0) w0.heap.size rfl (.tmp 8) (.tmp 11) 50 3 (.int .i64 0) 8 rfl Try.underlying50 info3 rfl (by decide) (by omega) u9000_ l1 a0_1 [.int .i64 a0_1] (fun k_ => (P1_ k_ ∨ w.heap.size ≤ k_)) (fun _ => False) rfl rfl ?aP (fun _ hk => hk.elim) ?aF ?aO ?aB ?aS ?aL ?_; (case aP => exact rfl); (case aB => exact (by repeat (first | (with_reducible first | exact HB.out | apply below_alloc | apply pw_below_drewN | apply below_drew1 | refine below_set ?_ GE313.out) | exact HB.out))); (case aF => exact (fun k_ hk => (.inr (Nat.le_trans (by first | exact HK.out.1 | exact (show Kept w _ (fun k_ => P1_ k_) from by repeat (first | (with_reducible first | exact HK.out | apply Kept.alloc | apply Kept.drewN | apply Kept.drew | refine Kept.setCell ?_ (.inr GW313.out) _) | exact HK.out)).1) hk)))); (case aO => exact (by (with_reducible repeat (first | apply Kd.R_alloc | apply Kd.R_drewN | apply Kd.R_drew)); exact HO1.out)); (case aS => exact (below_size (by repeat (first | (with_reducible first | exact HB.out | apply below_alloc | apply pw_below_drewN | apply below_drew1 | refine below_set ?_ GE313.out) | exact HB.out)))); (case aL => have := LMc3.out; omega); intro v315 w6 ho hb hg hat; rw [← Ny314.out] at ho; have n0_ := Aside0.mk (blk_grown (g := gb313) (o := .cells #[.bool false, .int .i64 a0_1, .slice A0_2 l0_2.length c0_2] 93 (0, 0)) (by (with_reducible repeat (first | refine blk_drewN ?_ _ | refine blk_drew ?_ | refine blk_alloc ?_ _)); exact BK313.out) hg (Kd.R_ne HO1.out BK313.out (by decide))); have n1_ := Aside0.mk (hb); have n2_ := Aside0.mk (Kept.of_grown (S := (fun k_ => P1_ k_)) hg (by repeat (first | (with_reducible first | exact HK.out | apply Kept.alloc | apply Kept.drewN | apply Kept.drew | refine Kept.setCell ?_ (.inr GW313.out) _) | exact HK.out)) (fun k_ e_ => (HO1.out.1 k_ e_))); have n3_ := Aside0.mk (ho); clear BK313; clear HB; clear HK; clear HO1; have BK313 := n0_; have HB := n1_; have HK := n2_; have HO316 := n3_; clear n0_ n1_ n2_ n3_; clear ho hb hg hat))
    go_ret
    exact ⟨_, by first | rfl | (simp [errW_none, errW_some] <;> rfl) | (simp [*, errW_none, errW_some] <;> rfl), by (with_reducible repeat (first | apply Kd.R_alloc | apply Kd.R_drewN | apply Kd.R_drew)); exact HO316.out, by repeat (first | (with_reducible first | exact HB.out | apply below_alloc | apply pw_below_drewN | apply below_drew1 | refine below_set ?_ GE313.out) | exact HB.out), by repeat (first | (with_reducible first | exact HK.out | apply Kept.alloc | apply Kept.drewN | apply Kept.drew | refine Kept.setCell ?_ (.inr GW313.out) _) | exact HK.out)⟩
  · rw [if_neg c3] at H
    exact absurd H (by simp)

set_option maxHeartbeats 8000000 in
set_option maxRecDepth 100000 in
theorem l9res_calls (k : Nat) : ∀ (a0_0 : Bool) (a0_1 : Int) (A0_2 : Option Addr) (c0_2 : Nat) (l0_2 : List (S93)) (P1_ : Nat → Prop) (u9000_ : Value) (l1 : List Int) (r : List Int) (w0 w : World), Below w0.heap.size w0 w → (∀ W_, Kept w W_ (fun k_ => P1_ k_) → Kd.C k93 W_ A0_2 l0_2.length l0_2) → l0_2.length ≤ c0_2 → Kd.R (Kd.int .i64) 3 w w0.heap.size P1_ u9000_ l1 → l9res k a0_0 a0_1 l0_2 l1 = some r →
    Calls Try.prog 70 #[.agg #[.bool a0_0, .int .i64 a0_1, .slice A0_2 l0_2.length c0_2], u9000_] w (L9Post w0 w P1_ r) := by
  induction k with
  | zero => intro a0_0 a0_1 A0_2 c0_2 l0_2 P1_ u9000_ l1 r w0 w _ _ _ _ h; simp [l9res] at h
  | succ k ih =>
    intro a0_0 a0_1 A0_2 c0_2 l0_2 P1_ u9000_ l1 r w0 w hB hr hc ho h
    simp only [l9res] at h
    cases a0_0 with
    | false => exact l9leaf_calls a0_1 A0_2 c0_2 l0_2 P1_ u9000_ l1 r w0 w hB hr hc ho (by simpa using h)
    | true =>
      rw [if_pos rfl] at h
      by_cases hl : 1 < l0_2.length
      · rw [if_pos hl] at h
        obtain ⟨t, h1, h2⟩ := Option.bind_eq_some_iff.mp h
        obtain ⟨ad, X, cx, rfl, fx, lx, gx⟩ := kept_get93 hr 0 (by omega) (by omega)
        obtain ⟨ad', Y, cy, e', fy, ly, gy⟩ := kept_get93 hr 1 (by omega) (by omega)
        obtain rfl : ad = ad' := by injection e'
        have fx0 : ∀ W, Kept w W P1_ → W.cell? ad = some (.bool (rd_T93 l0_2 0).f0) ∧ W.cell? ⟨ad.block, ad.off + 1, none⟩ = some (.int .i64 (rd_T93 l0_2 0).f1) ∧ W.cell? ⟨ad.block, ad.off + 2, none⟩ = some (.slice X (rd_T93 l0_2 0).f2.length cx) := by
          intro W hW
          have q := fx W hW
          simpa [Addr.add] using q
        have fy0 : ∀ W, Kept w W P1_ → W.cell? ⟨ad.block, ad.off + 3, none⟩ = some (.bool (rd_T93 l0_2 1).f0) ∧ W.cell? ⟨ad.block, ad.off + 3 + 1, none⟩ = some (.int .i64 (rd_T93 l0_2 1).f1) ∧ W.cell? ⟨ad.block, ad.off + 3 + 2, none⟩ = some (.slice Y (rd_T93 l0_2 1).f2.length cy) := by
          intro W hW
          have q := fy W hW
          exact q
        obtain ⟨x0, hx0⟩ : ∃ x, x = rd_T93 l0_2 0 := ⟨_, rfl⟩
        obtain ⟨y0, hy0⟩ : ∃ x, x = rd_T93 l0_2 1 := ⟨_, rfl⟩
        rw [← hx0] at h1 fx0 lx gx
        rw [← hy0] at h2 fy0 ly gy
        obtain ⟨x0, x1, x2⟩ := x0
        obtain ⟨y0, y1, y2⟩ := y0
        simp only at h1 h2 fx0 fy0 lx ly gx gy
        have IH := Lib.hid ih
        have HO := Lib.hid (Kd.R_bound ho)
        have HBW := Lib.hid hB
        have H1 := Lib.hid h1
        have H2 := Lib.hid h2
        have FX := Lib.hid fx0
        have FY := Lib.hid fy0
        have GX := Lib.hid gx
        have GY := Lib.hid gy
        have HC := hc
        have i1 : (1 : Int) < (l0_2.length : Int) := by omega
        have i0 : (0 : Int) < (l0_2.length : Int) := by omega
        have i0n : 0 < l0_2.length := by omega
        have ine : l0_2 ≠ [] := by rintro rfl; simp at hl
        have inb : l0_2 = [] ↔ False := by simp [ine]
        have idx : decide ((0 : Int) < (l0_2.length : Int)) = true := decide_eq_true i0
        unfold L9Post
        clear ih ho hB h1 h2 fx0 fy0 gx gy fx fy hr h hx0 hy0 e'
        go_enter Try.func70, Try.ntmps70
        go_wp2_with ((with_reducible refine gate_dst (N := 2) rfl ?_); refine box_event ?hg (N := 2) ?hd (cs := #[.bool true, .int .i64 a0_1, .slice (some ad) l0_2.length c0_2]) (t := 93) ?hr ?_; (case hd => rfl); (case hg => rfl); (case hr => first | (go_simp; done) | (go_simp; rfl)); intro gb hg w4 hbox hb; have K4 := Lib.hid (Kept.of_below hb P1_); have B4 := Lib.hid hb; have HG := Lib.hid hg; have HX := Lib.hid hbox; have HB4 := Lib.hid (below_step HBW.out (show Below w.heap.size w w4 from hb)); have c0 : w4.cell? ⟨gb, 0, none⟩ = some (.bool true) := (blk_cell hbox 0).trans rfl; have c2 : w4.cell? ⟨gb, 2, none⟩ = some (.slice (some ad) l0_2.length c0_2) := (blk_cell hbox 2).trans rfl; obtain ⟨x40, x41, x42⟩ := FX.out w4 K4.out; obtain ⟨y40, y41, y42⟩ := FY.out w4 K4.out; clear hb hg hbox)
        have hgb : gb < w4.heap.size := blk_lt HX.out
        have K4s := K4.out.1
        have C0 := Lib.hid (IH.out x0 x1 X cx x2 (fun k => P1_ k ∧ k < w.heap.size) u9000_ l1 t w0 w4.drew (by first | exact HB4.out | exact below_drew1 HB4.out | exact below_drew HB4.out) (fun W hW => GX.out W (Kept.then_ (S2 := fun k => P1_ k ∧ k < w.heap.size) K4.out hW (fun k hk => .inl hk.1))) lx (Kd.R_drew (Kd.R_below (Kd.R_mono HO.out (fun k hk => ⟨hk.1, hk.2.2.1⟩)) B4.out)) H1.out)
        have SS := Lib.hid (show ∀ W : World, W.cell? ⟨gb, 2, none⟩ = some (.slice (some ad) l0_2.length c0_2) → Kept w W P1_ → W.cell? ⟨gb, 2, none⟩ = some (.slice (some ad) l0_2.length c0_2) ∧ W.cell? ad = some (.bool x0) ∧ W.cell? ⟨ad.block, ad.off + 1, none⟩ = some (.int .i64 x1) ∧ W.cell? ⟨ad.block, ad.off + 2, none⟩ = some (.slice X x2.length cx) ∧ W.cell? ⟨ad.block, ad.off + 3, none⟩ = some (.bool y0) ∧ W.cell? ⟨ad.block, ad.off + 3 + 1, none⟩ = some (.int .i64 y1) ∧ W.cell? ⟨ad.block, ad.off + 3 + 2, none⟩ = some (.slice Y y2.length cy) from fun W h hK => ⟨h, (FX.out W hK).1, (FX.out W hK).2.1, (FX.out W hK).2.2, (FY.out W hK).1, (FY.out W hK).2.1, (FY.out W hK).2.2⟩)
        have S4 := SS.out w4.drew c2 K4.out
        clear x40 x41 x42 y40 y41 y42
        go_region_held3 (fun W => W.cell? ⟨gb, 2, none⟩ = some (.slice (some ad) l0_2.length c0_2) ∧ W.cell? ad = some (.bool x0) ∧ W.cell? ⟨ad.block, ad.off + 1, none⟩ = some (.int .i64 x1) ∧ W.cell? ⟨ad.block, ad.off + 2, none⟩ = some (.slice X x2.length cx) ∧ W.cell? ⟨ad.block, ad.off + 3, none⟩ = some (.bool y0) ∧ W.cell? ⟨ad.block, ad.off + 3 + 1, none⟩ = some (.int .i64 y1) ∧ W.cell? ⟨ad.block, ad.off + 3 + 2, none⟩ = some (.slice Y y2.length cy)) (first | (with_reducible exact S4) | (with_reducible exact S5) | (with_reducible exact S6))
          (first
          | (go_at_call 70; (with_reducible refine C0.out.mono ?_); rintro e w5 ⟨v0, rfl, hR5, hB5, hK5⟩; have K5 := Lib.hid (Kept.then_ (S2 := fun k => P1_ k ∧ k < w.heap.size) K4.out hK5 (fun k hk => .inl hk.1)); have R5 := Lib.hid hR5; have B5 := Lib.hid hB5; have c25 : w5.cell? ⟨gb, 2, none⟩ = some (.slice (some ad) l0_2.length c0_2) := (kept_cell hK5 (p := ⟨gb, 2, none⟩) (fun h => by have h2 : gb < w.heap.size := h.2; have := HG.out; omega) hgb).trans c2; have S5 := SS.out w5 c25 K5.out; have C1 := Lib.hid (IH.out y0 y1 Y cy y2 (fun k => (P1_ k ∧ k < w.heap.size) ∨ w4.heap.size ≤ k) v0 t r w0 w5 B5.out (fun W hW => GY.out W (Kept.then_ K5.out hW (fun k hk => hk.elim (fun h => .inl h.1) (fun h => .inr (Nat.le_trans K4s h))))) ly R5.out H2.out); have c26_ : ∀ w6 : World, Kept w5 w6 (fun k => (P1_ k ∧ k < w.heap.size) ∨ w4.heap.size ≤ k) → w6.cell? ⟨gb, 2, none⟩ = some (.slice (some ad) l0_2.length c0_2) := fun w6 h6 => (kept_cell h6 (p := ⟨gb, 2, none⟩) (fun h => by have h2 : (P1_ gb ∧ gb < w.heap.size) ∨ w4.heap.size ≤ gb := h; have := HG.out; rcases h2 with h2 | h2 <;> omega) (World.block_lt_of_cell? w5 _ c25)).trans c25; clear hR5 hB5 hK5)
          | (go_at_call 70; (with_reducible refine C1.out.mono ?_); rintro e w6 ⟨v1, rfl, hR6, hB6, hK6⟩; have R6 := Lib.hid hR6; have B6 := Lib.hid hB6; have K6 := Lib.hid hK6; have c26 : w6.cell? ⟨gb, 2, none⟩ = some (.slice (some ad) l0_2.length c0_2) := c26_ w6 hK6; have S6 := SS.out w6 c26 (Kept.then_ K5.out K6.out (fun k hk => hk.elim (fun h => .inl h.1) (fun h => .inr (Nat.le_trans K4s h)))); clear hR6 hB6 hK6))
        all_goals go_wp2
        all_goals go_ret
        all_goals exact ⟨v1, rfl, Kd.R_mono R6.out (fun k hk => hk.elim (fun h => h.elim (fun h => .inl h.1) (fun h => .inr (Nat.le_trans K4s h))) (fun h => .inr (Nat.le_trans K5.out.1 h))), B6.out, Kept.then_ K5.out K6.out (fun k hk => hk.elim (fun h => .inl h.1) (fun h => .inr (Nat.le_trans K4s h)))⟩
      · rw [if_neg hl] at h; cases h
end Go.Proofs.Ytjnaokdncemggaa.PAll
