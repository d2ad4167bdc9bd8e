-- Made by drive.py (the kit's print, with our own contracts beside it) for seat Ytjnaokdncemggaa.
import Derived.Test.YtjnaokdncemggaaPAllx0
import Derived.Test.YtjnaokdncemggaaPAllx2
import Derived.Test.YtjnaokdncemggaaPAllx12
import Derived.Test.YtjnaokdncemggaaPAllx31
import Derived.Test.YtjnaokdncemggaaPAllx32
namespace Go.Proofs.Ytjnaokdncemggaa.PAll
open Go.RowKit Go.Proofs.YtjnaokdncemggaaW.PrintWords Go.Proofs.YtjnaokdncemggaaW.PrintLast Go.Proofs.YtjnaokdncemggaaW.PrintMore
attribute [local go_sem] max2_int min2_int max_two min_two max_three min_three max_four min_four   -- for this text's walks alone
set_option linter.unusedVariables false
set_option linter.unusedSimpArgs false

/-! ### spec_MapComp: function 37 -/
def spec_MapComp.j0 : Nat → Int → Bool → Bool → Int → List (S93) → Option ((List (S83)) × Bool)
  | 0, _, _, _, _, _ => none
  | k + 1, x1, x19, x483000, x483001, x483002 => if x19 = true then (some (([] : List (S83)), false)) else ((spec_l9Add.f k x483000 x483001 x483002 x1).bind fun bt484 => ((spec_l9Flat.f bt484.1 bt484.2.1 bt484.2.2 ([] : List (S83))).bind fun t489 => (some (t489, true))))
def spec_MapComp.f (k : Nat) (l0 : List (S83)) (a1 : Int) : Option ((List (S83)) × Bool) := (spec_l9Tree.f k l0).bind fun bt476 => (if bt476.2.2.2 = true then ((spec_l1In.f a1 0 99).bind fun t483 => (spec_MapComp.j0 k a1 (!t483) bt476.1 bt476.2.1 bt476.2.2.1)) else (spec_MapComp.j0 k a1 true bt476.1 bt476.2.1 bt476.2.2.1))
theorem spec_MapComp.mono_l : ∀ k, (∀ y0 y1 y2 y3 y4, LeO (spec_MapComp.j0 k y0 y1 y2 y3 y4) (spec_MapComp.j0 (k + 1) y0 y1 y2 y3 y4))
  | 0 => fun _ _ _ _ _ r h => by simp [spec_MapComp.j0] at h
  | k + 1 => by
    have ih0 := spec_MapComp.mono_l k
    · intro y0 y1 y2 y3 y4
      unfold spec_MapComp.j0
      repeat' first
      | (with_reducible exact ih0 _ _ _ _ _)
      | (with_reducible exact spec_l9Add.mono _ _ _ _ _)
      | (with_reducible exact spec_l9Tree.mono _ _)
      | (with_reducible exact LeO.refl _)
      | (with_reducible exact LeO.none _)
      | (with_reducible refine LeO.ite ?_ ?_)
      | (with_reducible refine LeO.bind ?_ (fun _ => ?_))
      | exact ih0 _ _ _ _ _
      | exact spec_l9Add.mono _ _ _ _ _
      | exact spec_l9Tree.mono _ _
      | exact LeO.none _
      | refine LeO.ite ?_ ?_
      | refine LeO.bind ?_ (fun _ => ?_)
theorem spec_MapComp.mono : ∀ a0 a1 k, LeO (spec_MapComp.f k a0 a1) (spec_MapComp.f (k + 1) a0 a1) := by
  intro a0 a1 k
  have ih0 := spec_MapComp.mono_l k
  unfold spec_MapComp.f
  repeat' first
      | (with_reducible exact ih0 _ _ _ _ _)
      | (with_reducible exact spec_l9Add.mono _ _ _ _ _)
      | (with_reducible exact spec_l9Tree.mono _ _)
      | (with_reducible exact LeO.refl _)
      | (with_reducible exact LeO.none _)
      | (with_reducible refine LeO.ite ?_ ?_)
      | (with_reducible refine LeO.bind ?_ (fun _ => ?_))
      | exact ih0 _ _ _ _ _
      | exact spec_l9Add.mono _ _ _ _ _
      | exact spec_l9Tree.mono _ _
      | exact LeO.none _
      | refine LeO.ite ?_ ?_
      | refine LeO.bind ?_ (fun _ => ?_)
set_option maxHeartbeats 8000000 in
set_option maxRecDepth 100000 in
theorem spec_MapComp.calls (k : Nat) (A0 : Option Addr) (c0 : Nat) (l0 : List (S83)) (a1 : Int) (r1 : List (S83)) (r2 : Bool) (w : World) (hr0 : Kd.C k83 w A0 l0.length l0) (hc0 : l0.length ≤ c0) (h : spec_MapComp.f k l0 a1 = some (r1, r2)) :
    Calls Try.prog 37 #[.slice A0 l0.length c0, .int .i64 a1] w fun e w' => ∃ v0_ : Value, e = .returned (.tuple #[v0_, .bool r2]) ∧ Kd.R k83 83 w' w.heap.size (fun _ => True) v0_ r1 ∧ Below w.heap.size w w' := by
  have hu93 := Try.underlying93
  have HR0 := Aside0.mk hr0
  have HC0 := Aside0.mk hc0
  clear hr0 hc0
  have HB := Aside0.mk (Below.refl w.heap.size w)
  have H : ((spec_l9Tree.f k l0).bind fun bt476 => (if bt476.2.2.2 = true then ((spec_l1In.f a1 0 99).bind fun t483 => (spec_MapComp.j0 k a1 (!t483) bt476.1 bt476.2.1 bt476.2.2.1)) else (spec_MapComp.j0 k a1 true bt476.1 bt476.2.1 bt476.2.2.1))) = some (r1, r2) := h
  clear h
  replace H := Option.bind_eq_some_iff.mp H
  obtain ⟨⟨t476, t477, t478, t481⟩, A30, H⟩ := H
  replace H : (if t481 = true then ((spec_l1In.f a1 0 99).bind fun t483 => (spec_MapComp.j0 k a1 (!t483) t476 t477 t478)) else (spec_MapComp.j0 k a1 true t476 t477 t478)) = some (r1, r2) := H
  have A3 := Aside0.mk A30
  clear A30
  have HC4 := Aside0.mk H
  clear H
  go_enter Try.func37, Try.ntmps37
  go_upto_region 2 with (first | ((with_reducible refine gate_callee (f := 64) rfl ?_); refine goesL_ (some 10) rfl rfl Try.func64 (by kernel_rfl) rfl #[.slice A0 l0.length c0] rfl (by (try simp only [List.map_toArray, List.map_cons, List.map_nil]); first | done | rfl | (simp only [List.length_drop, List.length_take]; rfl)) ?_; (with_reducible refine (spec_l9Tree.calls k _ _ l0 t476 t477 t478 t481 _ ?side1 ?side2 A3.out).mono ?_); (case side1 => repeat (first | exact HR0.out | (with_reducible refine Kd.C_alloc ?_ _) | (with_reducible refine Kd.C_drewN ?_ _) | (with_reducible refine Kd.C_drew ?_))); (case side2 => exact HC0.out); rintro e w5 ⟨v479, rfl, ho0, hb⟩; refine ⟨_, rfl, ?_⟩; have n0_ := Aside0.mk (Kd.N_lower (Kd.N_mono (ok' := fun k_ => True) (Kd.R_N (Kd.R_bound ho0)) (fun k_ hk_ => trivial)) (below_size (by repeat (first | (with_reducible first | exact HB.out | apply below_alloc | apply pw_below_drewN | apply below_drew1) | exact HB.out)))); have n1_ := Aside0.mk (below_step (by repeat (first | (with_reducible first | exact HB.out | apply below_alloc | apply pw_below_drewN | apply below_drew1) | exact HB.out)) hb); clear HB; have HO480 := n0_; have HB := n1_; clear n0_ n1_; (try clear hb); (try clear hb2); (try clear hk); (try clear hi); (try clear ho0)) | ((with_reducible refine gate_dst (N := 6) rfl ?_); refine box_event ?hg (N := 6) ?hd (cs := #[.bool false, .int .i64 0, .slice none 0 0]) (t := 93) ?hr ?_; (case hd => rfl); (case hg => rfl); (case hr => first | (go_simp; done) | (go_simp; rfl)); intro gb482 hg w6 hbox hb; have n0_ := Aside0.mk (Kd.N_below (Kd.N_elderB (by (with_reducible repeat (first | apply Kd.N_alloc | apply Kd.N_drewN | apply Kd.N_drew)); exact HO480.out) gb482 (Nat.le_of_eq hg.symm)) hb); have n1_ := Aside0.mk (below_step (by repeat (first | (with_reducible first | exact HB.out | apply below_alloc | apply pw_below_drewN | apply below_drew1) | exact HB.out)) hb); have n2_ := Aside0.mk (hbox); have n3_ := Aside0.mk ((by rw [hg]; exact (below_size (by repeat (first | (with_reducible first | exact HB.out | apply below_alloc | apply pw_below_drewN | apply below_drew1) | exact HB.out))) : w.heap.size ≤ gb482)); have n4_ := Aside0.mk ((by rw [hg]; exact (below_size (by repeat (first | (with_reducible first | exact HB.out | apply below_alloc | apply pw_below_drewN | apply below_drew1) | exact HB.out))) : w.heap.size ≤ gb482)); clear HO480; clear HB; have HO480 := n0_; have HB := n1_; have BK482 := n2_; have GW482 := n3_; have GE482 := n4_; clear n0_ n1_ n2_ n3_ n4_; clear hb hbox hg; have hcz7_0 : w6.cell? ⟨gb482, 0, none⟩ = some (.bool false) := (blk_cell BK482.out 0).trans rfl; have hcz7_1 : w6.cell? ⟨gb482, 1, none⟩ = some (.int .i64 0) := (blk_cell BK482.out 1).trans rfl; have hcz7_2 : w6.cell? ⟨gb482, 2, none⟩ = some (.slice none 0 0) := (blk_cell BK482.out 2).trans rfl; have hfz7_0 := blk_frozen BK482.out 0; have hfz7_1 := blk_frozen BK482.out 1; have hfz7_2 := blk_frozen BK482.out 2; obtain ⟨Ao8, co8, eo8⟩ := Kd.N_slice HO480.out; subst eo8))
  (try simp only [Act.put, List.setIfInBounds_toArray, List.set_cons_zero, List.set_cons_succ])
  go_cut [19] (fun v19 wc => ∃ (kq : Nat) (x19_3 : Bool), v19 = .bool x19_3 ∧ Aside0 (spec_MapComp.j0 kq a1 x19_3 t476 t477 t478 = some (r1, r2)) ∧ Aside0 (kq ≤ k) ∧ Aside0 (Kd.N k93 93 wc w.heap.size (fun k_ => k_ ≠ gb482) (.slice Ao8 t478.length co8) t478) ∧ Aside0 (wc.heap[gb482]? = some (.cells #[.bool t476, .int .i64 t477, (.slice Ao8 t478.length co8)] 93 (0, 0))) ∧ Aside0 (Below w.heap.size w wc))
  case first =>
    have H := HC4.out
    clear HC4
    by_cases c9 : t481 = true
    · subst c9
      have H1 : ((spec_l1In.f a1 0 99).bind fun t483 => (spec_MapComp.j0 k a1 (!t483) t476 t477 t478)) = some (r1, r2) := by rw [if_pos rfl] at H; exact H
      clear H
      have H := H1
      clear H1
      replace H := Option.bind_eq_some_iff.mp H
      obtain ⟨t483, A100, H⟩ := H
      replace H : (spec_MapComp.j0 k a1 (!t483) t476 t477 t478) = some (r1, r2) := H
      have A10 := Aside0.mk A100
      clear A100
      have H' := Aside0.mk H
      clear H
      go_wp2_with (first | (go_at_call 57; (with_reducible refine (spec_l1In.calls a1 0 99 t483 _ A10.out).mono ?_); rintro e w' ⟨rfl, ⟨nd, rfl⟩⟩))
      go_meet
      case rel => exact ⟨_, (!t483), (by first | rfl | (simp; done) | (simp [*]; done)), H', ⟨by first | omega | exact Nat.le_refl _⟩, ⟨by (with_reducible repeat (first | apply Kd.N_alloc | apply Kd.N_drewN | apply Kd.N_drew)); exact Kd.N_mono (Kd.N_far (p := ⟨gb482, 2, none⟩) (Kd.N_far (p := ⟨gb482, 1, none⟩) (Kd.N_far (p := ⟨gb482, 0, none⟩) (Kd.N_mono HO480.out (fun k_ hk => (⟨hk, hk.2⟩ : _ ∧ k_ ≠ gb482))) (fun _ hk => hk.2) (.bool t476)) (fun _ hk => hk.2) (.int .i64 t477)) (fun _ hk => hk.2) (.slice Ao8 t478.length co8)) (fun _ hk => hk.1.2)⟩, ⟨by (with_reducible repeat (first | refine blk_drewN ?_ _ | refine blk_drew ?_ | refine blk_alloc ?_ _)); refine blk_put (cs := #[.bool t476, .int .i64 t477, .slice none 0 0]) ?_ 2 _ rfl; (with_reducible repeat (first | refine blk_drewN ?_ _ | refine blk_drew ?_ | refine blk_alloc ?_ _)); refine blk_put (cs := #[.bool t476, .int .i64 0, .slice none 0 0]) ?_ 1 _ rfl; (with_reducible repeat (first | refine blk_drewN ?_ _ | refine blk_drew ?_ | refine blk_alloc ?_ _)); refine blk_put (cs := #[.bool false, .int .i64 0, .slice none 0 0]) ?_ 0 _ rfl; (with_reducible repeat (first | refine blk_drewN ?_ _ | refine blk_drew ?_ | refine blk_alloc ?_ _)); exact BK482.out⟩, ⟨by repeat (first | (with_reducible first | exact HB.out | apply below_alloc | apply pw_below_drewN | apply below_drew1 | refine below_set ?_ GE482.out) | exact HB.out)⟩⟩
    · replace c9 := Bool.eq_false_iff.mpr c9
      subst c9
      have H1 : (spec_MapComp.j0 k a1 true t476 t477 t478) = some (r1, r2) := by rw [if_neg (show ¬ (false = true) by decide)] at H; exact H
      clear H
      have H := H1
      clear H1
      have H' := Aside0.mk H
      clear H
      go_wp2
      go_meet
      case rel => exact ⟨_, (true), (by first | rfl | (simp; done) | (simp [*]; done)), H', ⟨by first | omega | exact Nat.le_refl _⟩, ⟨by (with_reducible repeat (first | apply Kd.N_alloc | apply Kd.N_drewN | apply Kd.N_drew)); exact Kd.N_mono (Kd.N_far (p := ⟨gb482, 2, none⟩) (Kd.N_far (p := ⟨gb482, 1, none⟩) (Kd.N_far (p := ⟨gb482, 0, none⟩) (Kd.N_mono HO480.out (fun k_ hk => (⟨hk, hk.2⟩ : _ ∧ k_ ≠ gb482))) (fun _ hk => hk.2) (.bool t476)) (fun _ hk => hk.2) (.int .i64 t477)) (fun _ hk => hk.2) (.slice Ao8 t478.length co8)) (fun _ hk => hk.1.2)⟩, ⟨by (with_reducible repeat (first | refine blk_drewN ?_ _ | refine blk_drew ?_ | refine blk_alloc ?_ _)); refine blk_put (cs := #[.bool t476, .int .i64 t477, .slice none 0 0]) ?_ 2 _ rfl; (with_reducible repeat (first | refine blk_drewN ?_ _ | refine blk_drew ?_ | refine blk_alloc ?_ _)); refine blk_put (cs := #[.bool t476, .int .i64 0, .slice none 0 0]) ?_ 1 _ rfl; (with_reducible repeat (first | refine blk_drewN ?_ _ | refine blk_drew ?_ | refine blk_alloc ?_ _)); refine blk_put (cs := #[.bool false, .int .i64 0, .slice none 0 0]) ?_ 0 _ rfl; (with_reducible repeat (first | refine blk_drewN ?_ _ | refine blk_drew ?_ | refine blk_alloc ?_ _)); exact BK482.out⟩, ⟨by repeat (first | (with_reducible first | exact HB.out | apply below_alloc | apply pw_below_drewN | apply below_drew1 | refine below_set ?_ GE482.out) | exact HB.out)⟩⟩
  case rest =>
    clear HC4
    try clear p2
    try clear c3
    try clear c6
    try clear c9
    try clear hcz7_0
    try clear hcz7_1
    try clear hcz7_2
    try clear hfz7_0
    try clear hfz7_1
    try clear hfz7_2
    obtain ⟨kq, x19_3, rfl, HA, HJ3, HO_483002, BK482, HB⟩ := hcut
    cases kq with
    | zero => exact absurd HA.out (by simp [spec_MapComp.j0])
    | succ kj3 =>
      have H := HA.out
      clear HA
      simp only [spec_MapComp.j0] at H
      by_cases c11 : x19_3 = true
      · subst c11
        have H1 : (some (([] : List (S83)), false)) = some (r1, r2) := by rw [if_pos rfl] at H; exact H
        clear H
        have H := H1
        clear H1
        simp only [Option.some.injEq, Prod.mk.injEq] at H
        obtain ⟨rfl, rfl⟩ := H
        go_wp2
        go_ret2
        exact ⟨_, by first | rfl | (simp [errW_none, errW_some] <;> rfl) | (simp [*, errW_none, errW_some] <;> rfl), by first | exact Kd.R_nil _ _ _ _ _ | exact Kd.N_nil _ _ _ _ _ | exact Kd.V_nil _ _ _ _ _ | exact Kd.Q_nil _ _ _ _ _ | exact Kd.S_nil _ _ _ _ _, by repeat (first | (with_reducible first | exact HB.out | apply below_alloc | apply pw_below_drewN | apply below_drew1 | refine below_set ?_ GE482.out) | exact HB.out)⟩
      · replace c11 := Bool.eq_false_iff.mpr c11
        subst c11
        have H1 : ((spec_l9Add.f kj3 t476 t477 t478 a1).bind fun bt484 => ((spec_l9Flat.f bt484.1 bt484.2.1 bt484.2.2 ([] : List (S83))).bind fun t489 => (some (t489, true)))) = some (r1, r2) := by rw [if_neg (show ¬ (false = true) by decide)] at H; exact H
        clear H
        have H := H1
        clear H1
        replace H := Option.bind_eq_some_iff.mp H
        obtain ⟨⟨t484, t485, t486⟩, A120, H⟩ := H
        replace H : ((spec_l9Flat.f t484 t485 t486 ([] : List (S83))).bind fun t489 => (some (t489, true))) = some (r1, r2) := H
        have A12 := Aside0.mk A120
        clear A120
        replace H := Option.bind_eq_some_iff.mp H
        obtain ⟨t489, A130, H⟩ := H
        replace H : (some (t489, true)) = some (r1, r2) := H
        have A13 := Aside0.mk A130
        clear A130
        simp only [Option.some.injEq, Prod.mk.injEq] at H
        obtain ⟨rfl, rfl⟩ := H
        have hcz14_0 : wc.cell? ⟨gb482, 0, none⟩ = some (.bool t476) := (blk_cell BK482.out 0).trans rfl
        have hcz14_1 : wc.cell? ⟨gb482, 1, none⟩ = some (.int .i64 t477) := (blk_cell BK482.out 1).trans rfl
        have hcz14_2 : wc.cell? ⟨gb482, 2, none⟩ = some (.slice Ao8 t478.length co8) := (blk_cell BK482.out 2).trans rfl
        have hfz14_0 := blk_frozen BK482.out 0
        have hfz14_1 := blk_frozen BK482.out 1
        have hfz14_2 := blk_frozen BK482.out 2
        go_wp2_with (first | ((with_reducible refine gate_callee (f := 72) rfl ?_); refine goesL_ (some 22) rfl rfl Try.func72 (by kernel_rfl) rfl #[.agg #[.bool t476, .int .i64 t477, .slice Ao8 t478.length co8], .int .i64 a1] rfl (by (try simp only [List.map_toArray, List.map_cons, List.map_nil]); first | done | rfl | (simp only [List.length_drop, List.length_take]; rfl)) ?_; (with_reducible refine (spec_l9Add.calls kj3 t476 t477 _ _ t478 a1 t484 t485 t486 _ ?side1 ?side2 A12.out).mono ?_); (case side1 => repeat (first | exact (Kd.N_reads' HO_483002.out).2.2 | (with_reducible refine Kd.C_alloc ?_ _) | (with_reducible refine Kd.C_drewN ?_ _) | (with_reducible refine Kd.C_drew ?_))); (case side2 => exact (Kd.N_reads' HO_483002.out).2.1); rintro e w15 ⟨v487, rfl, ho0, hb⟩; refine ⟨_, rfl, ?_⟩; have n0_ := Aside0.mk (Kd.N_elder' (by (with_reducible repeat (first | apply Kd.N_alloc | apply Kd.N_drewN | apply Kd.N_drew)); exact HO_483002.out) (Kd.N_base ho0) hb); have n1_ := Aside0.mk (Kd.N_lower (Kd.N_mono (ok' := fun k_ => some k_ ≠ (.slice Ao8 t478.length co8 : Value).ownBlock ∧ k_ ≠ gb482) ho0 (fun k_ hk_ => ⟨(Kd.fresh' (Kd.N_lt (by (with_reducible repeat (first | apply Kd.N_alloc | apply Kd.N_drewN | apply Kd.N_drew)); exact HO_483002.out)) k_ hk_), (Kd.freshB (g := gb482) (o := .cells #[.bool t476, .int .i64 t477, .slice Ao8 t478.length co8] 93 (0, 0)) (by (with_reducible repeat (first | refine blk_drewN ?_ _ | refine blk_drew ?_ | refine blk_alloc ?_ _)); exact BK482.out) k_ hk_)⟩)) (below_size (by repeat (first | (with_reducible first | exact HB.out | apply below_alloc | apply pw_below_drewN | apply below_drew1 | refine below_set ?_ GE482.out) | exact HB.out)))); have n2_ := Aside0.mk (blk_below (g := gb482) (o := .cells #[.bool t476, .int .i64 t477, .slice Ao8 t478.length co8] 93 (0, 0)) (by (with_reducible repeat (first | refine blk_drewN ?_ _ | refine blk_drew ?_ | refine blk_alloc ?_ _)); exact BK482.out) hb); have n3_ := Aside0.mk (below_step (by repeat (first | (with_reducible first | exact HB.out | apply below_alloc | apply pw_below_drewN | apply below_drew1 | refine below_set ?_ GE482.out) | exact HB.out)) hb); clear HO_483002; clear BK482; clear HB; have HO_483002 := n0_; have HO488 := n1_; have BK482 := n2_; have HB := n3_; clear n0_ n1_ n2_ n3_; (try clear hb); (try clear hb2); (try clear hk); (try clear hi); (try clear ho0); obtain ⟨Ao16, co16, eo16⟩ := Kd.N_slice HO488.out; subst eo16) | ((with_reducible refine gate_callee (f := 71) rfl ?_); refine goesL_ (some 23) rfl rfl Try.func71 (by kernel_rfl) rfl #[.agg #[.bool t484, .int .i64 t485, .slice Ao16 t486.length co16], .slice none 0 0] rfl (by (try simp only [List.map_toArray, List.map_cons, List.map_nil]); first | done | rfl | (simp only [List.length_drop, List.length_take]; rfl)) ?_; (refine (spec_l9Flat.calls t484 t485 _ _ t486 (fun k_ => some k_ = (.slice none 0 0 : Value).ownBlock) (.slice none 0 0) ([] : List (S83)) t489 w _ ?side1 ?side2 ?side3 ?side4 A13.out).mono ?_); (case side1 => repeat (first | (with_reducible first | exact HB.out | apply below_alloc | apply pw_below_drewN | apply below_drew1 | refine below_set ?_ GE482.out) | exact HB.out)); (case side2 => exact Kd.C_kept_ownV (Kd.N_V (base' := 0) (HO488.out)) (fun k_ hk_ hs_ => (fun e_ => by simp [Value.ownBlock] at e_) hs_)); (case side3 => exact (Kd.N_reads' HO488.out).2.1); (case side4 => exact Kd.R_nil _ _ _ _ _); rintro e w17 ⟨v490, rfl, ho0, hb, hkp⟩; refine ⟨_, rfl, ?_⟩; have n0_ := Aside0.mk (Kd.N_mono (ok' := fun k_ => some k_ ≠ (.slice Ao16 t486.length co16 : Value).ownBlock ∧ k_ ≠ gb482 ∧ some k_ ≠ (v490 : Value).ownBlock) (Kd.N_keptB (HO_483002.out) hkp (fun k_ hk_ hs_ => (fun e_ => by simp [Value.ownBlock] at e_) hs_)) (fun k_ hk_ => ⟨hk_.1.2, hk_.1.1, fun e_ => Or.elim (ho0.1 k_ e_.symm) (fun hs_ => hk_.2.1 hs_) (fun hn_ => Nat.not_le.2 hk_.2.2 hn_)⟩)); have n1_ := Aside0.mk (blk_kept (by (with_reducible repeat (first | refine blk_drewN ?_ _ | refine blk_drew ?_ | refine blk_alloc ?_ _)); exact BK482.out) hkp (fun hs_ => (fun e_ => by simp [Value.ownBlock] at e_) hs_)); have n2_ := Aside0.mk (Kd.N_mono (ok' := fun k_ => some k_ ≠ (.slice Ao8 t478.length co8 : Value).ownBlock ∧ k_ ≠ gb482 ∧ some k_ ≠ (v490 : Value).ownBlock) (Kd.N_keptB (HO488.out) hkp (fun k_ hk_ hs_ => (fun e_ => by simp [Value.ownBlock] at e_) hs_)) (fun k_ hk_ => ⟨hk_.1.1, hk_.1.2, fun e_ => Or.elim (ho0.1 k_ e_.symm) (fun hs_ => hk_.2.1 hs_) (fun hn_ => Nat.not_le.2 hk_.2.2 hn_)⟩)); have n3_ := Aside0.mk (Kd.R_mono (ok' := fun k_ => True) ho0 (fun k_ hk_ => trivial)); have n4_ := Aside0.mk (hb); clear HO_483002; clear BK482; clear HO488; clear HB; have HO_483002 := n0_; have BK482 := n1_; have HO488 := n2_; have HO491 := n3_; have HB := n4_; clear n0_ n1_ n2_ n3_ n4_; (try clear hb); (try clear hkp); (try clear ho0)))
        go_ret2
        exact ⟨_, by first | rfl | (simp [errW_none, errW_some] <;> rfl) | (simp [*, errW_none, errW_some] <;> rfl), by (with_reducible repeat (first | apply Kd.R_alloc | apply Kd.R_drewN | apply Kd.R_drew)); exact HO491.out, by repeat (first | (with_reducible first | exact HB.out | apply below_alloc | apply pw_below_drewN | apply below_drew1 | refine below_set ?_ GE482.out) | exact HB.out)⟩

-- NOT PRINTED: function 73 (impl_comp_then)

-- NOT PRINTED: function 94 (impl_comp_cells)

-- NOT PRINTED: function 76 (impl_comp_good)

end Go.Proofs.Ytjnaokdncemggaa.PAll
