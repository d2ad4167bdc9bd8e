-- Made by pack.py of the texts that the law reaches.
import Derived.Test.YtjnaokdncemggaaV2
namespace Go.Proofs.Ytjnaokdncemggaa.PAll
set_option linter.defProp false
def cw_ := @Go.Proofs.YtjnaokdncemggaaW.PrintWords.cell_far
end Go.Proofs.Ytjnaokdncemggaa.PAll

section
namespace Go.Proofs.Ytjnaokdncemggaa.PAll
open Go.RowKit Go.Proofs.YtjnaokdncemggaaW.PrintWords Go.Proofs.YtjnaokdncemggaaW.PrintLast Go.Proofs.YtjnaokdncemggaaW.PrintMore
attribute [local go_sem] max2_int min2_int max_two min_two max_three min_three max_four min_four   -- for this text's walks alone
set_option linter.unusedVariables false
set_option linter.unusedSimpArgs false
def spec_GoodHandler.l0 : Nat → List (S82) → Int → Int → Int → List (S82) → Option (Bool)
  | 0, _, _, _, _, _ => none
  | k + 1, x6, x7, x8, x104000, x104001 => if x8 < x7 then (if 0 ≤ x8 then (if x8 < (x6.length : Int) then ((spec_l1In.f ((rd_T82 x6 x8).f0) 1 5).bind fun t107 => (if t107 = true then ((spec_l1In.f ((rd_T82 x6 x8).f1) 0 99).bind fun t108 => (if t108 = true then (if ((rd_T82 x6 x8).f0) = 4 then (spec_GoodHandler.l0 k x6 x7 (wrap64 (x8 + 1)) x104000 x104001) else (if ((rd_T82 x6 x8).f1) = 0 then (spec_GoodHandler.l0 k x6 x7 (wrap64 (x8 + 1)) x104000 x104001) else (some false))) else (some false))) else (some false))) else (none)) else (none)) else ((spec_l1In.f x104000 0 99).bind fun t104 => (if t104 = true then (some ((x104001.length : Int) == 3)) else (some false)))
def spec_GoodHandler.f (k : Nat) (a0_0 : Int) (l0_1 : List (S82)) : Option (Bool) := spec_GoodHandler.l0 k l0_1 (l0_1.length : Int) 0 a0_0 l0_1
theorem spec_GoodHandler.mono_l : ∀ k, (∀ y0 y1 y2 y3 y4, LeO (spec_GoodHandler.l0 k y0 y1 y2 y3 y4) (spec_GoodHandler.l0 (k + 1) y0 y1 y2 y3 y4))
  | 0 => fun _ _ _ _ _ r h => by simp [spec_GoodHandler.l0] at h
  | k + 1 => by
    have ih0 := spec_GoodHandler.mono_l k
    · intro y0 y1 y2 y3 y4
      unfold spec_GoodHandler.l0
      repeat' first
      | (with_reducible exact ih0 _ _ _ _ _)
      | (with_reducible exact LeO.refl _)
      | (with_reducible exact LeO.none _)
      | (with_reducible refine LeO.ite ?_ ?_)
      | (with_reducible refine LeO.bind ?_ (fun _ => ?_))
      | exact ih0 _ _ _ _ _
      | exact LeO.none _
      | refine LeO.ite ?_ ?_
      | refine LeO.bind ?_ (fun _ => ?_)
theorem spec_GoodHandler.mono : ∀ a0 a1 k, LeO (spec_GoodHandler.f k a0 a1) (spec_GoodHandler.f (k + 1) a0 a1) := by
  intro a0 a1 k
  have ih0 := spec_GoodHandler.mono_l k
  unfold spec_GoodHandler.f
  repeat' first
      | (with_reducible exact ih0 _ _ _ _ _)
      | (with_reducible exact LeO.refl _)
      | (with_reducible exact LeO.none _)
      | (with_reducible refine LeO.ite ?_ ?_)
      | (with_reducible refine LeO.bind ?_ (fun _ => ?_))
      | exact ih0 _ _ _ _ _
      | exact LeO.none _
      | refine LeO.ite ?_ ?_
      | refine LeO.bind ?_ (fun _ => ?_)
set_option maxHeartbeats 8000000 in
set_option maxRecDepth 100000 in
theorem spec_GoodHandler.calls (k : Nat) (a0_0 : Int) (A0_1 : Option Addr) (c0_1 : Nat) (l0_1 : List (S82)) (r : Bool) (w : World) (hr0_1 : Kd.C k82 w A0_1 l0_1.length l0_1) (hc0_1 : l0_1.length ≤ c0_1) (h : spec_GoodHandler.f k a0_0 l0_1 = some r) :
    Calls Try.prog 14 #[.agg #[.int .i64 a0_0, .slice A0_1 l0_1.length c0_1]] w fun e w' => e = .returned (.bool r) ∧ Below w.heap.size w w' := by
  have hu29 := Try.underlying29
  have hu82 := Try.underlying82
  have HR0_1 := ab_ hr0_1
  have HC0_1 := ab_ hc0_1
  clear hr0_1 hc0_1
  have HB := ab_ (av_ w.heap.size w)
  have H : (spec_GoodHandler.l0 k l0_1 (l0_1.length : Int) 0 a0_0 l0_1) = some r := h
  clear h
  have H' := ab_ H
  clear H
  go_enter Try.func14, Try.ntmps14
  go_wp2_with (first | ((with_reducible refine gate_dst (N := 1) rfl ?_); (try (refine gate_guard (by rfl) ?_; dsimp only)); refine box_event ?hg (N := 1) ?hd (cs := #[.int .i64 a0_0, .slice A0_1 l0_1.length c0_1]) (t := 29) ?hr ?_; (case hd => rfl); (case hg => rfl); (case hr => first | (go_simp; done) | (go_simp; rfl)); intro gb103 hg w2 hbox hb; have n0_ := ab_ (au_ (by repeat (first | (with_reducible first | exact HB.out | apply ai_ | apply ag_ | apply ah_) | exact HB.out)) hb); have n1_ := ab_ (hbox); have n2_ := ab_ ((by rw [hg]; exact (below_size (by repeat (first | (with_reducible first | exact HB.out | apply ai_ | apply ag_ | apply ah_) | exact HB.out))) : w.heap.size ≤ gb103)); have n3_ := ab_ ((by rw [hg]; exact (below_size (by repeat (first | (with_reducible first | exact HB.out | apply ai_ | apply ag_ | apply ah_) | exact HB.out))) : w.heap.size ≤ gb103)); clear HB; have HB := n0_; have BK103 := n1_; have GW103 := n2_; have GE103 := n3_; clear n0_ n1_ n2_ n3_; clear hb hbox hg; have hcz3_0 : w2.cell? ⟨gb103, 0, none⟩ = some (.int .i64 a0_0) := (an_ BK103.out 0).trans rfl; have hcz3_1 : w2.cell? ⟨gb103, 1, none⟩ = some (.slice A0_1 l0_1.length c0_1) := (an_ BK103.out 1).trans rfl; have hfz3_0 := am_ BK103.out 0; have hfz3_1 := am_ BK103.out 1))
  go_loopg [8] k (fun kq v8 w' => ∃ (x8_1 : Int), v8 = .int .i64 x8_1 ∧ Aside0 (spec_GoodHandler.l0 kq l0_1 (l0_1.length : Int) x8_1 a0_0 l0_1 = some r) ∧ Aside0 (kq ≤ k) ∧ Aside0 (w'.heap[gb103]? = some (.cells #[.int .i64 a0_0, (.slice A0_1 l0_1.length c0_1)] 29 (0, 0))) ∧ Aside0 (Below w.heap.size w w'))
  case atStart => exact ⟨(0), (by first | rfl | (simp; done) | (simp [*]; done)), H', ⟨Nat.le_refl _⟩, ⟨by (with_reducible repeat (first | refine ac_ ?_ _ | refine ae_ ?_ | refine ad_ ?_ _)); exact BK103.out⟩, ⟨by repeat (first | (with_reducible first | exact HB.out | apply ai_ | apply ag_ | apply ah_ | refine af_ ?_ GE103.out) | exact HB.out)⟩⟩
  case round =>
    clear H'
    try clear c1
    try clear p2
    try clear hcz3_0
    try clear hcz3_1
    try clear hfz3_0
    try clear hfz3_1
    obtain ⟨x8_1, rfl, HA, HK1, BK103, HB⟩ := hrel
    cases gk with
    | zero => exact absurd HA.out (by simp [spec_GoodHandler.l0])
    | succ k1 =>
      have H := HA.out
      clear HA
      simp only [spec_GoodHandler.l0] at H
      by_cases c4 : x8_1 < (l0_1.length : Int)
      · rw [if_pos c4] at H
        have c4b0 : decide (x8_1 < (l0_1.length : Int)) = true := at_ c4
        clear c4
        by_cases c5 : 0 ≤ x8_1
        · rw [if_pos c5] at H
          have c5b0 : decide (0 ≤ x8_1) = true := at_ c5
          clear c5
          by_cases c6 : x8_1 < (l0_1.length : Int)
          · rw [if_pos c6] at H
            have c6b0 : decide (x8_1 < (l0_1.length : Int)) = true := at_ c6
            clear c6
            replace H := Option.bind_eq_some_iff.mp H
            obtain ⟨t107, A70, H⟩ := H
            replace H : (if t107 = true then ((spec_l1In.f ((rd_T82 l0_1 x8_1).f1) 0 99).bind fun t108 => (if t108 = true then (if ((rd_T82 l0_1 x8_1).f0) = 4 then (spec_GoodHandler.l0 k1 l0_1 (l0_1.length : Int) (wrap64 (x8_1 + 1)) a0_0 l0_1) else (if ((rd_T82 l0_1 x8_1).f1) = 0 then (spec_GoodHandler.l0 k1 l0_1 (l0_1.length : Int) (wrap64 (x8_1 + 1)) a0_0 l0_1) else (some false))) else (some false))) else (some false)) = some r := H
            have A7 := ab_ A70
            clear A70
            by_cases c8 : t107 = true
            · subst c8
              have H1 : ((spec_l1In.f ((rd_T82 l0_1 x8_1).f1) 0 99).bind fun t108 => (if t108 = true then (if ((rd_T82 l0_1 x8_1).f0) = 4 then (spec_GoodHandler.l0 k1 l0_1 (l0_1.length : Int) (wrap64 (x8_1 + 1)) a0_0 l0_1) else (if ((rd_T82 l0_1 x8_1).f1) = 0 then (spec_GoodHandler.l0 k1 l0_1 (l0_1.length : Int) (wrap64 (x8_1 + 1)) a0_0 l0_1) else (some false))) else (some false))) = some r := by rw [if_pos rfl] at H; exact H
              clear H
              have H := H1
              clear H1
              replace H := Option.bind_eq_some_iff.mp H
              obtain ⟨t108, A90, H⟩ := H
              replace H : (if t108 = true then (if ((rd_T82 l0_1 x8_1).f0) = 4 then (spec_GoodHandler.l0 k1 l0_1 (l0_1.length : Int) (wrap64 (x8_1 + 1)) a0_0 l0_1) else (if ((rd_T82 l0_1 x8_1).f1) = 0 then (spec_GoodHandler.l0 k1 l0_1 (l0_1.length : Int) (wrap64 (x8_1 + 1)) a0_0 l0_1) else (some false))) else (some false)) = some r := H
              have A9 := ab_ A90
              clear A90
              by_cases c10 : t108 = true
              · subst c10
                have H1 : (if ((rd_T82 l0_1 x8_1).f0) = 4 then (spec_GoodHandler.l0 k1 l0_1 (l0_1.length : Int) (wrap64 (x8_1 + 1)) a0_0 l0_1) else (if ((rd_T82 l0_1 x8_1).f1) = 0 then (spec_GoodHandler.l0 k1 l0_1 (l0_1.length : Int) (wrap64 (x8_1 + 1)) a0_0 l0_1) else (some false))) = some r := by rw [if_pos rfl] at H; exact H
                clear H
                have H := H1
                clear H1
                by_cases c11 : ((rd_T82 l0_1 x8_1).f0) = 4
                · rw [if_pos c11] at H
                  have c11b0 : (((rd_T82 l0_1 x8_1).f0) == 4) = true := beq_iff_eq.mpr c11
                  have c11b1 : (((rd_T82 l0_1 x8_1).f0) != 4) = false := bne_eq_false_iff_eq.mpr c11
                  clear c11
                  have H' := ab_ H
                  clear H
                  have p105 : 0 ≤ (x8_1 : Int) := of_decide_eq_true (by first | (with_reducible assumption) | assumption)
                  have q105 : x8_1 < (l0_1.length : Int) := of_decide_eq_true (by first | (with_reducible assumption) | assumption)
                  obtain ⟨ad105, e105, hx105_0, hx105_1⟩ := at_T82 HR0_1.out x8_1 p105 q105
                  cases e105
                  replace hx105_0 := (HB.out.cell (aa_ w _ hx105_0)).trans hx105_0
                  replace hx105_1 := (HB.out.cell (aa_ w _ hx105_1)).trans hx105_1
                  replace p105 := eq_true p105
                  replace q105 := eq_true q105
                  go_wp2_with (first | ((with_reducible refine gate_dst (N := 4) rfl ?_); (try (refine gate_guard (by rfl) ?_; dsimp only)); refine box_event ?hg (N := 4) ?hd (cs := #[.int .i64 0, .int .i64 0]) (t := 82) ?hr ?_; (case hd => rfl); (case hg => rfl); (case hr => first | (go_simp; done) | (go_simp; rfl)); intro gb106 hg w12 hbox hb; have n0_ := ab_ (blk_below (g := gb103) (o := .cells #[.int .i64 a0_0, .slice (some ad105) l0_1.length c0_1] 29 (0, 0)) (by (with_reducible repeat (first | refine ac_ ?_ _ | refine ae_ ?_ | refine ad_ ?_ _)); exact BK103.out) hb); have n1_ := ab_ (au_ (by repeat (first | (with_reducible first | exact HB.out | apply ai_ | apply ag_ | apply ah_ | refine af_ ?_ GE103.out) | exact HB.out)) hb); have n2_ := ab_ (hbox); have n3_ := ab_ ((by rw [hg]; exact (below_size (by repeat (first | (with_reducible first | exact HB.out | apply ai_ | apply ag_ | apply ah_ | refine af_ ?_ GE103.out) | exact HB.out))) : w.heap.size ≤ gb106)); have n4_ := ab_ ((by rw [hg]; exact (below_size (by repeat (first | (with_reducible first | exact HB.out | apply ai_ | apply ag_ | apply ah_ | refine af_ ?_ GE103.out) | exact HB.out))) : w.heap.size ≤ gb106)); have n5_ := ab_ ((by rw [hg]; exact ak_ (blk_lt (g := gb103) (o := .cells #[.int .i64 a0_0, .slice (some ad105) l0_1.length c0_1] 29 (0, 0)) (by (with_reducible repeat (first | refine ac_ ?_ _ | refine ae_ ?_ | refine ad_ ?_ _)); exact BK103.out)) : gb103 ≠ gb106)); have n6_ := ab_ ((by rw [hg]; exact Nat.ne_of_gt (blk_lt (g := gb103) (o := .cells #[.int .i64 a0_0, .slice (some ad105) l0_1.length c0_1] 29 (0, 0)) (by (with_reducible repeat (first | refine ac_ ?_ _ | refine ae_ ?_ | refine ad_ ?_ _)); exact BK103.out)) : gb106 ≠ gb103)); clear BK103; clear HB; have BK103 := n0_; have HB := n1_; have BK106 := n2_; have GW106 := n3_; have GE106 := n4_; have NB103_106 := n5_; have NB106_103 := n6_; clear n0_ n1_ n2_ n3_ n4_ n5_ n6_; clear hb hbox hg; have hnb13 := NB106_103.out; have hnc13 := NB103_106.out; have hcz14_0 : w12.cell? ⟨gb106, 0, none⟩ = some (.int .i64 0) := (an_ BK106.out 0).trans rfl; have hcz14_1 : w12.cell? ⟨gb106, 1, none⟩ = some (.int .i64 0) := (an_ BK106.out 1).trans rfl; have hfz14_0 := am_ BK106.out 0; have hfz14_1 := am_ BK106.out 1) | ((with_reducible refine gate_callee (f := 57) rfl ?_); refine goesL_ (some 14) rfl rfl Try.func57 (by kernel_rfl) rfl #[.int .i64 ((rd_T82 l0_1 x8_1).f0), .int .i64 1, .int .i64 5] rfl (by (try simp only [List.map_toArray, List.map_cons, List.map_nil]); first | done | rfl | (simp only [List.length_drop, List.length_take]; rfl)) ?_; (with_reducible refine (spec_l1In.calls ((rd_T82 l0_1 x8_1).f0) 1 5 true _ A7.out).mono ?_); rintro e w' ⟨rfl, ⟨nd, rfl⟩⟩; refine ⟨_, rfl, ?_⟩) | (go_at_call 57; (with_reducible refine (spec_l1In.calls ((rd_T82 l0_1 x8_1).f1) 0 99 true _ A9.out).mono ?_); rintro e w' ⟨rfl, ⟨nd, rfl⟩⟩))
                  go_roundg k1
                  case measure => have := HK1.out; omega
                  case rel => exact ⟨(wrap64 (x8_1 + 1)), (by first | rfl | (simp; done) | (simp [*]; done)), H', ⟨by have := HK1.out; omega⟩, ⟨by (with_reducible repeat (first | refine ac_ ?_ _ | refine ae_ ?_ | refine ad_ ?_ _)); refine blk_far ?_ NB103_106.out _; (with_reducible repeat (first | refine ac_ ?_ _ | refine ae_ ?_ | refine ad_ ?_ _)); refine blk_far ?_ NB103_106.out _; (with_reducible repeat (first | refine ac_ ?_ _ | refine ae_ ?_ | refine ad_ ?_ _)); exact BK103.out⟩, ⟨by repeat (first | (with_reducible first | exact HB.out | apply ai_ | apply ag_ | apply ah_ | refine af_ ?_ GE103.out | refine af_ ?_ GE106.out) | exact HB.out)⟩⟩
                · rw [if_neg c11] at H
                  have c11b0 : (((rd_T82 l0_1 x8_1).f0) == 4) = false := beq_eq_false_iff_ne.mpr c11
                  have c11b1 : (((rd_T82 l0_1 x8_1).f0) != 4) = true := bne_iff_ne.mpr c11
                  by_cases c15 : ((rd_T82 l0_1 x8_1).f1) = 0
                  · rw [if_pos c15] at H
                    have c15b0 : (((rd_T82 l0_1 x8_1).f1) == 0) = true := beq_iff_eq.mpr c15
                    have c15b1 : (((rd_T82 l0_1 x8_1).f1) != 0) = false := bne_eq_false_iff_eq.mpr c15
                    clear c15
                    have H' := ab_ H
                    clear H
                    have p105 : 0 ≤ (x8_1 : Int) := of_decide_eq_true (by first | (with_reducible assumption) | assumption)
                    have q105 : x8_1 < (l0_1.length : Int) := of_decide_eq_true (by first | (with_reducible assumption) | assumption)
                    obtain ⟨ad105, e105, hx105_0, hx105_1⟩ := at_T82 HR0_1.out x8_1 p105 q105
                    cases e105
                    replace hx105_0 := (HB.out.cell (aa_ w _ hx105_0)).trans hx105_0
                    replace hx105_1 := (HB.out.cell (aa_ w _ hx105_1)).trans hx105_1
                    replace p105 := eq_true p105
                    replace q105 := eq_true q105
                    go_wp2_with (first | ((with_reducible refine gate_dst (N := 4) rfl ?_); (try (refine gate_guard (by rfl) ?_; dsimp only)); refine box_event ?hg (N := 4) ?hd (cs := #[.int .i64 0, .int .i64 0]) (t := 82) ?hr ?_; (case hd => rfl); (case hg => rfl); (case hr => first | (go_simp; done) | (go_simp; rfl)); intro gb106 hg w16 hbox hb; have n0_ := ab_ (blk_below (g := gb103) (o := .cells #[.int .i64 a0_0, .slice (some ad105) l0_1.length c0_1] 29 (0, 0)) (by (with_reducible repeat (first | refine ac_ ?_ _ | refine ae_ ?_ | refine ad_ ?_ _)); exact BK103.out) hb); have n1_ := ab_ (au_ (by repeat (first | (with_reducible first | exact HB.out | apply ai_ | apply ag_ | apply ah_ | refine af_ ?_ GE103.out) | exact HB.out)) hb); have n2_ := ab_ (hbox); have n3_ := ab_ ((by rw [hg]; exact (below_size (by repeat (first | (with_reducible first | exact HB.out | apply ai_ | apply ag_ | apply ah_ | refine af_ ?_ GE103.out) | exact HB.out))) : w.heap.size ≤ gb106)); have n4_ := ab_ ((by rw [hg]; exact (below_size (by repeat (first | (with_reducible first | exact HB.out | apply ai_ | apply ag_ | apply ah_ | refine af_ ?_ GE103.out) | exact HB.out))) : w.heap.size ≤ gb106)); have n5_ := ab_ ((by rw [hg]; exact ak_ (blk_lt (g := gb103) (o := .cells #[.int .i64 a0_0, .slice (some ad105) l0_1.length c0_1] 29 (0, 0)) (by (with_reducible repeat (first | refine ac_ ?_ _ | refine ae_ ?_ | refine ad_ ?_ _)); exact BK103.out)) : gb103 ≠ gb106)); have n6_ := ab_ ((by rw [hg]; exact Nat.ne_of_gt (blk_lt (g := gb103) (o := .cells #[.int .i64 a0_0, .slice (some ad105) l0_1.length c0_1] 29 (0, 0)) (by (with_reducible repeat (first | refine ac_ ?_ _ | refine ae_ ?_ | refine ad_ ?_ _)); exact BK103.out)) : gb106 ≠ gb103)); clear BK103; clear HB; have BK103 := n0_; have HB := n1_; have BK106 := n2_; have GW106 := n3_; have GE106 := n4_; have NB103_106 := n5_; have NB106_103 := n6_; clear n0_ n1_ n2_ n3_ n4_ n5_ n6_; clear hb hbox hg; have hnb17 := NB106_103.out; have hnc17 := NB103_106.out; have hcz18_0 : w16.cell? ⟨gb106, 0, none⟩ = some (.int .i64 0) := (an_ BK106.out 0).trans rfl; have hcz18_1 : w16.cell? ⟨gb106, 1, none⟩ = some (.int .i64 0) := (an_ BK106.out 1).trans rfl; have hfz18_0 := am_ BK106.out 0; have hfz18_1 := am_ BK106.out 1) | ((with_reducible refine gate_callee (f := 57) rfl ?_); refine goesL_ (some 14) rfl rfl Try.func57 (by kernel_rfl) rfl #[.int .i64 ((rd_T82 l0_1 x8_1).f0), .int .i64 1, .int .i64 5] rfl (by (try simp only [List.map_toArray, List.map_cons, List.map_nil]); first | done | rfl | (simp only [List.length_drop, List.length_take]; rfl)) ?_; (with_reducible refine (spec_l1In.calls ((rd_T82 l0_1 x8_1).f0) 1 5 true _ A7.out).mono ?_); rintro e w' ⟨rfl, ⟨nd, rfl⟩⟩; refine ⟨_, rfl, ?_⟩) | (go_at_call 57; (with_reducible refine (spec_l1In.calls ((rd_T82 l0_1 x8_1).f1) 0 99 true _ A9.out).mono ?_); rintro e w' ⟨rfl, ⟨nd, rfl⟩⟩))
                    go_roundg k1
                    case measure => have := HK1.out; omega
                    case rel => exact ⟨(wrap64 (x8_1 + 1)), (by first | rfl | (simp; done) | (simp [*]; done)), H', ⟨by have := HK1.out; omega⟩, ⟨by (with_reducible repeat (first | refine ac_ ?_ _ | refine ae_ ?_ | refine ad_ ?_ _)); refine blk_far ?_ NB103_106.out _; (with_reducible repeat (first | refine ac_ ?_ _ | refine ae_ ?_ | refine ad_ ?_ _)); refine blk_far ?_ NB103_106.out _; (with_reducible repeat (first | refine ac_ ?_ _ | refine ae_ ?_ | refine ad_ ?_ _)); exact BK103.out⟩, ⟨by repeat (first | (with_reducible first | exact HB.out | apply ai_ | apply ag_ | apply ah_ | refine af_ ?_ GE103.out | refine af_ ?_ GE106.out) | exact HB.out)⟩⟩
                  · rw [if_neg c15] at H
                    have c15b0 : (((rd_T82 l0_1 x8_1).f1) == 0) = false := beq_eq_false_iff_ne.mpr c15
                    have c15b1 : (((rd_T82 l0_1 x8_1).f1) != 0) = true := bne_iff_ne.mpr c15
                    obtain rfl := Option.some.inj H
                    have p105 : 0 ≤ (x8_1 : Int) := of_decide_eq_true (by first | (with_reducible assumption) | assumption)
                    have q105 : x8_1 < (l0_1.length : Int) := of_decide_eq_true (by first | (with_reducible assumption) | assumption)
                    obtain ⟨ad105, e105, hx105_0, hx105_1⟩ := at_T82 HR0_1.out x8_1 p105 q105
                    cases e105
                    replace hx105_0 := (HB.out.cell (aa_ w _ hx105_0)).trans hx105_0
                    replace hx105_1 := (HB.out.cell (aa_ w _ hx105_1)).trans hx105_1
                    replace p105 := eq_true p105
                    replace q105 := eq_true q105
                    go_wp2_with (first | ((with_reducible refine gate_dst (N := 4) rfl ?_); (try (refine gate_guard (by rfl) ?_; dsimp only)); refine box_event ?hg (N := 4) ?hd (cs := #[.int .i64 0, .int .i64 0]) (t := 82) ?hr ?_; (case hd => rfl); (case hg => rfl); (case hr => first | (go_simp; done) | (go_simp; rfl)); intro gb106 hg w19 hbox hb; have n0_ := ab_ (blk_below (g := gb103) (o := .cells #[.int .i64 a0_0, .slice (some ad105) l0_1.length c0_1] 29 (0, 0)) (by (with_reducible repeat (first | refine ac_ ?_ _ | refine ae_ ?_ | refine ad_ ?_ _)); exact BK103.out) hb); have n1_ := ab_ (au_ (by repeat (first | (with_reducible first | exact HB.out | apply ai_ | apply ag_ | apply ah_ | refine af_ ?_ GE103.out) | exact HB.out)) hb); have n2_ := ab_ (hbox); have n3_ := ab_ ((by rw [hg]; exact (below_size (by repeat (first | (with_reducible first | exact HB.out | apply ai_ | apply ag_ | apply ah_ | refine af_ ?_ GE103.out) | exact HB.out))) : w.heap.size ≤ gb106)); have n4_ := ab_ ((by rw [hg]; exact (below_size (by repeat (first | (with_reducible first | exact HB.out | apply ai_ | apply ag_ | apply ah_ | refine af_ ?_ GE103.out) | exact HB.out))) : w.heap.size ≤ gb106)); have n5_ := ab_ ((by rw [hg]; exact ak_ (blk_lt (g := gb103) (o := .cells #[.int .i64 a0_0, .slice (some ad105) l0_1.length c0_1] 29 (0, 0)) (by (with_reducible repeat (first | refine ac_ ?_ _ | refine ae_ ?_ | refine ad_ ?_ _)); exact BK103.out)) : gb103 ≠ gb106)); have n6_ := ab_ ((by rw [hg]; exact Nat.ne_of_gt (blk_lt (g := gb103) (o := .cells #[.int .i64 a0_0, .slice (some ad105) l0_1.length c0_1] 29 (0, 0)) (by (with_reducible repeat (first | refine ac_ ?_ _ | refine ae_ ?_ | refine ad_ ?_ _)); exact BK103.out)) : gb106 ≠ gb103)); clear BK103; clear HB; have BK103 := n0_; have HB := n1_; have BK106 := n2_; have GW106 := n3_; have GE106 := n4_; have NB103_106 := n5_; have NB106_103 := n6_; clear n0_ n1_ n2_ n3_ n4_ n5_ n6_; clear hb hbox hg; have hnb20 := NB106_103.out; have hnc20 := NB103_106.out; have hcz21_0 : w19.cell? ⟨gb106, 0, none⟩ = some (.int .i64 0) := (an_ BK106.out 0).trans rfl; have hcz21_1 : w19.cell? ⟨gb106, 1, none⟩ = some (.int .i64 0) := (an_ BK106.out 1).trans rfl; have hfz21_0 := am_ BK106.out 0; have hfz21_1 := am_ BK106.out 1) | ((with_reducible refine gate_callee (f := 57) rfl ?_); refine goesL_ (some 14) rfl rfl Try.func57 (by kernel_rfl) rfl #[.int .i64 ((rd_T82 l0_1 x8_1).f0), .int .i64 1, .int .i64 5] rfl (by (try simp only [List.map_toArray, List.map_cons, List.map_nil]); first | done | rfl | (simp only [List.length_drop, List.length_take]; rfl)) ?_; (with_reducible refine (spec_l1In.calls ((rd_T82 l0_1 x8_1).f0) 1 5 true _ A7.out).mono ?_); rintro e w' ⟨rfl, ⟨nd, rfl⟩⟩; refine ⟨_, rfl, ?_⟩) | (go_at_call 57; (with_reducible refine (spec_l1In.calls ((rd_T82 l0_1 x8_1).f1) 0 99 true _ A9.out).mono ?_); rintro e w' ⟨rfl, ⟨nd, rfl⟩⟩))
                    go_ret
                    exact ⟨by first | rfl | (simp [errW_none, errW_some] <;> rfl) | (simp [*, errW_none, errW_some] <;> rfl), by repeat (first | (with_reducible first | exact HB.out | apply ai_ | apply ag_ | apply ah_ | refine af_ ?_ GE103.out | refine af_ ?_ GE106.out) | exact HB.out)⟩
              · replace c10 := Bool.eq_false_iff.mpr c10
                subst c10
                have H1 : (some false) = some r := by rw [if_neg (show ¬ (false = true) by decide)] at H; exact H
                clear H
                have H := H1
                clear H1
                obtain rfl := Option.some.inj H
                have p105 : 0 ≤ (x8_1 : Int) := of_decide_eq_true (by first | (with_reducible assumption) | assumption)
                have q105 : x8_1 < (l0_1.length : Int) := of_decide_eq_true (by first | (with_reducible assumption) | assumption)
                obtain ⟨ad105, e105, hx105_0, hx105_1⟩ := at_T82 HR0_1.out x8_1 p105 q105
                cases e105
                replace hx105_0 := (HB.out.cell (aa_ w _ hx105_0)).trans hx105_0
                replace hx105_1 := (HB.out.cell (aa_ w _ hx105_1)).trans hx105_1
                replace p105 := eq_true p105
                replace q105 := eq_true q105
                go_wp2_with (first | ((with_reducible refine gate_dst (N := 4) rfl ?_); (try (refine gate_guard (by rfl) ?_; dsimp only)); refine box_event ?hg (N := 4) ?hd (cs := #[.int .i64 0, .int .i64 0]) (t := 82) ?hr ?_; (case hd => rfl); (case hg => rfl); (case hr => first | (go_simp; done) | (go_simp; rfl)); intro gb106 hg w22 hbox hb; have n0_ := ab_ (blk_below (g := gb103) (o := .cells #[.int .i64 a0_0, .slice (some ad105) l0_1.length c0_1] 29 (0, 0)) (by (with_reducible repeat (first | refine ac_ ?_ _ | refine ae_ ?_ | refine ad_ ?_ _)); exact BK103.out) hb); have n1_ := ab_ (au_ (by repeat (first | (with_reducible first | exact HB.out | apply ai_ | apply ag_ | apply ah_ | refine af_ ?_ GE103.out) | exact HB.out)) hb); have n2_ := ab_ (hbox); have n3_ := ab_ ((by rw [hg]; exact (below_size (by repeat (first | (with_reducible first | exact HB.out | apply ai_ | apply ag_ | apply ah_ | refine af_ ?_ GE103.out) | exact HB.out))) : w.heap.size ≤ gb106)); have n4_ := ab_ ((by rw [hg]; exact (below_size (by repeat (first | (with_reducible first | exact HB.out | apply ai_ | apply ag_ | apply ah_ | refine af_ ?_ GE103.out) | exact HB.out))) : w.heap.size ≤ gb106)); have n5_ := ab_ ((by rw [hg]; exact ak_ (blk_lt (g := gb103) (o := .cells #[.int .i64 a0_0, .slice (some ad105) l0_1.length c0_1] 29 (0, 0)) (by (with_reducible repeat (first | refine ac_ ?_ _ | refine ae_ ?_ | refine ad_ ?_ _)); exact BK103.out)) : gb103 ≠ gb106)); have n6_ := ab_ ((by rw [hg]; exact Nat.ne_of_gt (blk_lt (g := gb103) (o := .cells #[.int .i64 a0_0, .slice (some ad105) l0_1.length c0_1] 29 (0, 0)) (by (with_reducible repeat (first | refine ac_ ?_ _ | refine ae_ ?_ | refine ad_ ?_ _)); exact BK103.out)) : gb106 ≠ gb103)); clear BK103; clear HB; have BK103 := n0_; have HB := n1_; have BK106 := n2_; have GW106 := n3_; have GE106 := n4_; have NB103_106 := n5_; have NB106_103 := n6_; clear n0_ n1_ n2_ n3_ n4_ n5_ n6_; clear hb hbox hg; have hnb23 := NB106_103.out; have hnc23 := NB103_106.out; have hcz24_0 : w22.cell? ⟨gb106, 0, none⟩ = some (.int .i64 0) := (an_ BK106.out 0).trans rfl; have hcz24_1 : w22.cell? ⟨gb106, 1, none⟩ = some (.int .i64 0) := (an_ BK106.out 1).trans rfl; have hfz24_0 := am_ BK106.out 0; have hfz24_1 := am_ BK106.out 1) | ((with_reducible refine gate_callee (f := 57) rfl ?_); refine goesL_ (some 14) rfl rfl Try.func57 (by kernel_rfl) rfl #[.int .i64 ((rd_T82 l0_1 x8_1).f0), .int .i64 1, .int .i64 5] rfl (by (try simp only [List.map_toArray, List.map_cons, List.map_nil]); first | done | rfl | (simp only [List.length_drop, List.length_take]; rfl)) ?_; (with_reducible refine (spec_l1In.calls ((rd_T82 l0_1 x8_1).f0) 1 5 true _ A7.out).mono ?_); rintro e w' ⟨rfl, ⟨nd, rfl⟩⟩; refine ⟨_, rfl, ?_⟩) | (go_at_call 57; (with_reducible refine (spec_l1In.calls ((rd_T82 l0_1 x8_1).f1) 0 99 false _ A9.out).mono ?_); rintro e w' ⟨rfl, ⟨nd, rfl⟩⟩))
                go_ret
                exact ⟨by first | rfl | (simp [errW_none, errW_some] <;> rfl) | (simp [*, errW_none, errW_some] <;> rfl), by repeat (first | (with_reducible first | exact HB.out | apply ai_ | apply ag_ | apply ah_ | refine af_ ?_ GE103.out | refine af_ ?_ GE106.out) | exact HB.out)⟩
            · replace c8 := Bool.eq_false_iff.mpr c8
              subst c8
              have H1 : (some false) = some r := by rw [if_neg (show ¬ (false = true) by decide)] at H; exact H
              clear H
              have H := H1
              clear H1
              obtain rfl := Option.some.inj H
              have p105 : 0 ≤ (x8_1 : Int) := of_decide_eq_true (by first | (with_reducible assumption) | assumption)
              have q105 : x8_1 < (l0_1.length : Int) := of_decide_eq_true (by first | (with_reducible assumption) | assumption)
              obtain ⟨ad105, e105, hx105_0, hx105_1⟩ := at_T82 HR0_1.out x8_1 p105 q105
              cases e105
              replace hx105_0 := (HB.out.cell (aa_ w _ hx105_0)).trans hx105_0
              replace hx105_1 := (HB.out.cell (aa_ w _ hx105_1)).trans hx105_1
              replace p105 := eq_true p105
              replace q105 := eq_true q105
              go_wp2_with (first | ((with_reducible refine gate_dst (N := 4) rfl ?_); (try (refine gate_guard (by rfl) ?_; dsimp only)); refine box_event ?hg (N := 4) ?hd (cs := #[.int .i64 0, .int .i64 0]) (t := 82) ?hr ?_; (case hd => rfl); (case hg => rfl); (case hr => first | (go_simp; done) | (go_simp; rfl)); intro gb106 hg w25 hbox hb; have n0_ := ab_ (blk_below (g := gb103) (o := .cells #[.int .i64 a0_0, .slice (some ad105) l0_1.length c0_1] 29 (0, 0)) (by (with_reducible repeat (first | refine ac_ ?_ _ | refine ae_ ?_ | refine ad_ ?_ _)); exact BK103.out) hb); have n1_ := ab_ (au_ (by repeat (first | (with_reducible first | exact HB.out | apply ai_ | apply ag_ | apply ah_ | refine af_ ?_ GE103.out) | exact HB.out)) hb); have n2_ := ab_ (hbox); have n3_ := ab_ ((by rw [hg]; exact (below_size (by repeat (first | (with_reducible first | exact HB.out | apply ai_ | apply ag_ | apply ah_ | refine af_ ?_ GE103.out) | exact HB.out))) : w.heap.size ≤ gb106)); have n4_ := ab_ ((by rw [hg]; exact (below_size (by repeat (first | (with_reducible first | exact HB.out | apply ai_ | apply ag_ | apply ah_ | refine af_ ?_ GE103.out) | exact HB.out))) : w.heap.size ≤ gb106)); have n5_ := ab_ ((by rw [hg]; exact ak_ (blk_lt (g := gb103) (o := .cells #[.int .i64 a0_0, .slice (some ad105) l0_1.length c0_1] 29 (0, 0)) (by (with_reducible repeat (first | refine ac_ ?_ _ | refine ae_ ?_ | refine ad_ ?_ _)); exact BK103.out)) : gb103 ≠ gb106)); have n6_ := ab_ ((by rw [hg]; exact Nat.ne_of_gt (blk_lt (g := gb103) (o := .cells #[.int .i64 a0_0, .slice (some ad105) l0_1.length c0_1] 29 (0, 0)) (by (with_reducible repeat (first | refine ac_ ?_ _ | refine ae_ ?_ | refine ad_ ?_ _)); exact BK103.out)) : gb106 ≠ gb103)); clear BK103; clear HB; have BK103 := n0_; have HB := n1_; have BK106 := n2_; have GW106 := n3_; have GE106 := n4_; have NB103_106 := n5_; have NB106_103 := n6_; clear n0_ n1_ n2_ n3_ n4_ n5_ n6_; clear hb hbox hg; have hnb26 := NB106_103.out; have hnc26 := NB103_106.out; have hcz27_0 : w25.cell? ⟨gb106, 0, none⟩ = some (.int .i64 0) := (an_ BK106.out 0).trans rfl; have hcz27_1 : w25.cell? ⟨gb106, 1, none⟩ = some (.int .i64 0) := (an_ BK106.out 1).trans rfl; have hfz27_0 := am_ BK106.out 0; have hfz27_1 := am_ BK106.out 1) | ((with_reducible refine gate_callee (f := 57) rfl ?_); refine goesL_ (some 14) rfl rfl Try.func57 (by kernel_rfl) rfl #[.int .i64 ((rd_T82 l0_1 x8_1).f0), .int .i64 1, .int .i64 5] rfl (by (try simp only [List.map_toArray, List.map_cons, List.map_nil]); first | done | rfl | (simp only [List.length_drop, List.length_take]; rfl)) ?_; (with_reducible refine (spec_l1In.calls ((rd_T82 l0_1 x8_1).f0) 1 5 false _ A7.out).mono ?_); rintro e w' ⟨rfl, ⟨nd, rfl⟩⟩; refine ⟨_, rfl, ?_⟩))
              go_ret
              exact ⟨by first | rfl | (simp [errW_none, errW_some] <;> rfl) | (simp [*, errW_none, errW_some] <;> rfl), by repeat (first | (with_reducible first | exact HB.out | apply ai_ | apply ag_ | apply ah_ | refine af_ ?_ GE103.out | refine af_ ?_ GE106.out) | exact HB.out)⟩
          · rw [if_neg c6] at H
            exact absurd H (by simp)
        · rw [if_neg c5] at H
          exact absurd H (by simp)
      · rw [if_neg c4] at H
        have c4b0 : decide (x8_1 < (l0_1.length : Int)) = false := decide_eq_false c4
        clear c4
        replace H := Option.bind_eq_some_iff.mp H
        obtain ⟨t104, A280, H⟩ := H
        replace H : (if t104 = true then (some ((l0_1.length : Int) == 3)) else (some false)) = some r := H
        have A28 := ab_ A280
        clear A280
        by_cases c29 : t104 = true
        · subst c29
          have H1 : (some ((l0_1.length : Int) == 3)) = some r := by rw [if_pos rfl] at H; exact H
          clear H
          have H := H1
          clear H1
          obtain rfl := Option.some.inj H
          have hcz30_0 : wr.cell? ⟨gb103, 0, none⟩ = some (.int .i64 a0_0) := (an_ BK103.out 0).trans rfl
          have hcz30_1 : wr.cell? ⟨gb103, 1, none⟩ = some (.slice A0_1 l0_1.length c0_1) := (an_ BK103.out 1).trans rfl
          have hfz30_0 := am_ BK103.out 0
          have hfz30_1 := am_ BK103.out 1
          go_wp2_with (first | ((with_reducible refine gate_callee (f := 57) rfl ?_); refine goesL_ (some 35) rfl rfl Try.func57 (by kernel_rfl) rfl #[.int .i64 a0_0, .int .i64 0, .int .i64 99] rfl (by (try simp only [List.map_toArray, List.map_cons, List.map_nil]); first | done | rfl | (simp only [List.length_drop, List.length_take]; rfl)) ?_; (with_reducible refine (spec_l1In.calls a0_0 0 99 true _ A28.out).mono ?_); rintro e w' ⟨rfl, ⟨nd, rfl⟩⟩; refine ⟨_, rfl, ?_⟩))
          go_ret
          exact ⟨by first | rfl | (simp [errW_none, errW_some] <;> rfl) | (simp [*, errW_none, errW_some] <;> rfl), by repeat (first | (with_reducible first | exact HB.out | apply ai_ | apply ag_ | apply ah_ | refine af_ ?_ GE103.out) | exact HB.out)⟩
        · replace c29 := Bool.eq_false_iff.mpr c29
          subst c29
          have H1 : (some false) = some r := by rw [if_neg (show ¬ (false = true) by decide)] at H; exact H
          clear H
          have H := H1
          clear H1
          obtain rfl := Option.some.inj H
          have hcz31_0 : wr.cell? ⟨gb103, 0, none⟩ = some (.int .i64 a0_0) := (an_ BK103.out 0).trans rfl
          have hcz31_1 : wr.cell? ⟨gb103, 1, none⟩ = some (.slice A0_1 l0_1.length c0_1) := (an_ BK103.out 1).trans rfl
          have hfz31_0 := am_ BK103.out 0
          have hfz31_1 := am_ BK103.out 1
          go_wp2_with (first | ((with_reducible refine gate_callee (f := 57) rfl ?_); refine goesL_ (some 35) rfl rfl Try.func57 (by kernel_rfl) rfl #[.int .i64 a0_0, .int .i64 0, .int .i64 99] rfl (by (try simp only [List.map_toArray, List.map_cons, List.map_nil]); first | done | rfl | (simp only [List.length_drop, List.length_take]; rfl)) ?_; (with_reducible refine (spec_l1In.calls a0_0 0 99 false _ A28.out).mono ?_); rintro e w' ⟨rfl, ⟨nd, rfl⟩⟩; refine ⟨_, rfl, ?_⟩))
          go_ret
          exact ⟨by first | rfl | (simp [errW_none, errW_some] <;> rfl) | (simp [*, errW_none, errW_some] <;> rfl), by repeat (first | (with_reducible first | exact HB.out | apply ai_ | apply ag_ | apply ah_ | refine af_ ?_ GE103.out) | exact HB.out)⟩
def laws_toRule.f (a0_0 : Int) (a0_1 : Int) : Option (Int × Int) := some (a0_0, a0_1)
set_option maxHeartbeats 8000000 in
set_option maxRecDepth 100000 in
theorem laws_toRule.calls (a0_0 : Int) (a0_1 : Int) (r1 : Int) (r2 : Int) (w : World) (h : laws_toRule.f a0_0 a0_1 = some (r1, r2)) :
    Calls Try.prog 88 #[.agg #[.int .i64 a0_0, .int .i64 a0_1]] w fun e w' => e = .returned (.agg #[.int .i64 r1, .int .i64 r2]) ∧ Below w.heap.size w w' := by
  have hu126 := Try.underlying126
  have hu82 := Try.underlying82
  have HB := ab_ (av_ w.heap.size w)
  have H : (some (a0_0, a0_1)) = some (r1, r2) := h
  clear h
  simp only [Option.some.injEq, Prod.mk.injEq] at H
  obtain ⟨rfl, rfl⟩ := H
  go_enter Try.func88, Try.ntmps88
  go_wp2_with (first | ((with_reducible refine gate_dst (N := 1) rfl ?_); refine box_event ?hg (N := 1) ?hd (cs := #[.int .i64 a0_0, .int .i64 a0_1]) (t := 126) ?hr ?_; (case hd => rfl); (case hg => rfl); (case hr => first | (go_simp; done) | (go_simp; rfl)); intro gb109 hg w2 hbox hb; have n0_ := ab_ (au_ (by repeat (first | (with_reducible first | exact HB.out | apply ai_ | apply ag_ | apply ah_) | exact HB.out)) hb); have n1_ := ab_ (hbox); have n2_ := ab_ ((by rw [hg]; exact (below_size (by repeat (first | (with_reducible first | exact HB.out | apply ai_ | apply ag_ | apply ah_) | exact HB.out))) : w.heap.size ≤ gb109)); have n3_ := ab_ ((by rw [hg]; exact (below_size (by repeat (first | (with_reducible first | exact HB.out | apply ai_ | apply ag_ | apply ah_) | exact HB.out))) : w.heap.size ≤ gb109)); clear HB; have HB := n0_; have BK109 := n1_; have GW109 := n2_; have GE109 := n3_; clear n0_ n1_ n2_ n3_; clear hb hbox hg) | ((with_reducible refine gate_dst (N := 2) rfl ?_); refine box_event ?hg (N := 2) ?hd (cs := #[.int .i64 0, .int .i64 0]) (t := 82) ?hr ?_; (case hd => rfl); (case hg => rfl); (case hr => first | (go_simp; done) | (go_simp; rfl)); intro gb110 hg w3 hbox hb; have n0_ := ab_ (blk_below (g := gb109) (o := .cells #[.int .i64 a0_0, .int .i64 a0_1] 126 (0, 0)) (by (with_reducible repeat (first | refine ac_ ?_ _ | refine ae_ ?_ | refine ad_ ?_ _)); exact BK109.out) hb); have n1_ := ab_ (au_ (by repeat (first | (with_reducible first | exact HB.out | apply ai_ | apply ag_ | apply ah_ | refine af_ ?_ GE109.out) | exact HB.out)) hb); have n2_ := ab_ (hbox); have n3_ := ab_ ((by rw [hg]; exact (below_size (by repeat (first | (with_reducible first | exact HB.out | apply ai_ | apply ag_ | apply ah_ | refine af_ ?_ GE109.out) | exact HB.out))) : w.heap.size ≤ gb110)); have n4_ := ab_ ((by rw [hg]; exact (below_size (by repeat (first | (with_reducible first | exact HB.out | apply ai_ | apply ag_ | apply ah_ | refine af_ ?_ GE109.out) | exact HB.out))) : w.heap.size ≤ gb110)); have n5_ := ab_ ((by rw [hg]; exact ak_ (blk_lt (g := gb109) (o := .cells #[.int .i64 a0_0, .int .i64 a0_1] 126 (0, 0)) (by (with_reducible repeat (first | refine ac_ ?_ _ | refine ae_ ?_ | refine ad_ ?_ _)); exact BK109.out)) : gb109 ≠ gb110)); have n6_ := ab_ ((by rw [hg]; exact Nat.ne_of_gt (blk_lt (g := gb109) (o := .cells #[.int .i64 a0_0, .int .i64 a0_1] 126 (0, 0)) (by (with_reducible repeat (first | refine ac_ ?_ _ | refine ae_ ?_ | refine ad_ ?_ _)); exact BK109.out)) : gb110 ≠ gb109)); clear BK109; clear HB; have BK109 := n0_; have HB := n1_; have BK110 := n2_; have GW110 := n3_; have GE110 := n4_; have NB109_110 := n5_; have NB110_109 := n6_; clear n0_ n1_ n2_ n3_ n4_ n5_ n6_; clear hb hbox hg) | ((with_reducible refine gate_dst (N := 3) rfl ?_); refine box_event ?hg (N := 3) ?hd (cs := #[.int .i64 0, .int .i64 0]) (t := 82) ?hr ?_; (case hd => rfl); (case hg => rfl); (case hr => first | (go_simp; done) | (go_simp; rfl)); intro gb111 hg w4 hbox hb; have n0_ := ab_ (blk_below (g := gb109) (o := .cells #[.int .i64 a0_0, .int .i64 a0_1] 126 (0, 0)) (by (with_reducible repeat (first | refine ac_ ?_ _ | refine ae_ ?_ | refine ad_ ?_ _)); exact BK109.out) hb); have n1_ := ab_ (blk_below (g := gb110) (o := .cells #[.int .i64 0, .int .i64 0] 82 (0, 0)) (by (with_reducible repeat (first | refine ac_ ?_ _ | refine ae_ ?_ | refine ad_ ?_ _)); exact BK110.out) hb); have n2_ := ab_ (au_ (by repeat (first | (with_reducible first | exact HB.out | apply ai_ | apply ag_ | apply ah_ | refine af_ ?_ GE109.out | refine af_ ?_ GE110.out) | exact HB.out)) hb); have n3_ := ab_ (hbox); have n4_ := ab_ ((by rw [hg]; exact (below_size (by repeat (first | (with_reducible first | exact HB.out | apply ai_ | apply ag_ | apply ah_ | refine af_ ?_ GE109.out | refine af_ ?_ GE110.out) | exact HB.out))) : w.heap.size ≤ gb111)); have n5_ := ab_ ((by rw [hg]; exact (below_size (by repeat (first | (with_reducible first | exact HB.out | apply ai_ | apply ag_ | apply ah_ | refine af_ ?_ GE109.out | refine af_ ?_ GE110.out) | exact HB.out))) : w.heap.size ≤ gb111)); have n6_ := ab_ ((by rw [hg]; exact ak_ (blk_lt (g := gb109) (o := .cells #[.int .i64 a0_0, .int .i64 a0_1] 126 (0, 0)) (by (with_reducible repeat (first | refine ac_ ?_ _ | refine ae_ ?_ | refine ad_ ?_ _)); exact BK109.out)) : gb109 ≠ gb111)); have n7_ := ab_ ((by rw [hg]; exact Nat.ne_of_gt (blk_lt (g := gb109) (o := .cells #[.int .i64 a0_0, .int .i64 a0_1] 126 (0, 0)) (by (with_reducible repeat (first | refine ac_ ?_ _ | refine ae_ ?_ | refine ad_ ?_ _)); exact BK109.out)) : gb111 ≠ gb109)); have n8_ := ab_ ((by rw [hg]; exact ak_ (blk_lt (g := gb110) (o := .cells #[.int .i64 0, .int .i64 0] 82 (0, 0)) (by (with_reducible repeat (first | refine ac_ ?_ _ | refine ae_ ?_ | refine ad_ ?_ _)); exact BK110.out)) : gb110 ≠ gb111)); have n9_ := ab_ ((by rw [hg]; exact Nat.ne_of_gt (blk_lt (g := gb110) (o := .cells #[.int .i64 0, .int .i64 0] 82 (0, 0)) (by (with_reducible repeat (first | refine ac_ ?_ _ | refine ae_ ?_ | refine ad_ ?_ _)); exact BK110.out)) : gb111 ≠ gb110)); clear BK109; clear BK110; clear HB; have BK109 := n0_; have BK110 := n1_; have HB := n2_; have BK111 := n3_; have GW111 := n4_; have GE111 := n5_; have NB109_111 := n6_; have NB111_109 := n7_; have NB110_111 := n8_; have NB111_110 := n9_; clear n0_ n1_ n2_ n3_ n4_ n5_ n6_ n7_ n8_ n9_; clear hb hbox hg; have hnb5 := NB109_110.out; have hnc5 := NB110_109.out; have hnb6 := NB109_111.out; have hnc6 := NB111_109.out; have hcz7_0 : w4.cell? ⟨gb109, 0, none⟩ = some (.int .i64 a0_0) := (an_ BK109.out 0).trans rfl; have hcz7_1 : w4.cell? ⟨gb109, 1, none⟩ = some (.int .i64 a0_1) := (an_ BK109.out 1).trans rfl; have hfz7_0 := am_ BK109.out 0; have hfz7_1 := am_ BK109.out 1; have hnb8 := NB111_110.out; have hnc8 := NB110_111.out; have hcz9_0 : w4.cell? ⟨gb111, 0, none⟩ = some (.int .i64 0) := (an_ BK111.out 0).trans rfl; have hcz9_1 : w4.cell? ⟨gb111, 1, none⟩ = some (.int .i64 0) := (an_ BK111.out 1).trans rfl; have hfz9_0 := am_ BK111.out 0; have hfz9_1 := am_ BK111.out 1; have hcz10_0 : w4.cell? ⟨gb110, 0, none⟩ = some (.int .i64 0) := (an_ BK110.out 0).trans rfl; have hcz10_1 : w4.cell? ⟨gb110, 1, none⟩ = some (.int .i64 0) := (an_ BK110.out 1).trans rfl; have hfz10_0 := am_ BK110.out 0; have hfz10_1 := am_ BK110.out 1))
  refine bodyPost_ret (results_cell_row rfl _ _ gb110 82 #[.int .i64 a0_0, .int .i64 a0_1] (0, 0) _ rfl (by (with_reducible repeat (first | refine ac_ ?_ _ | refine ae_ ?_ | refine ad_ ?_ _)); refine blk_put (cs := #[.int .i64 a0_0, .int .i64 0]) ?_ 1 _ rfl; (with_reducible repeat (first | refine ac_ ?_ _ | refine ae_ ?_ | refine ad_ ?_ _)); refine blk_put (cs := #[.int .i64 0, .int .i64 0]) ?_ 0 _ rfl; (with_reducible repeat (first | refine ac_ ?_ _ | refine ae_ ?_ | refine ad_ ?_ _)); refine blk_far ?_ NB110_111.out _; (with_reducible repeat (first | refine ac_ ?_ _ | refine ae_ ?_ | refine ad_ ?_ _)); refine blk_far ?_ NB110_111.out _; (with_reducible repeat (first | refine ac_ ?_ _ | refine ae_ ?_ | refine ad_ ?_ _)); exact BK110.out) Try.underlying82 rfl (by kernel_rfl)) rfl ?_
  exact ⟨by first | rfl | (simp [errW_none, errW_some] <;> rfl) | (simp [*, errW_none, errW_some] <;> rfl), by repeat (first | (with_reducible first | exact HB.out | apply ai_ | apply ag_ | apply ah_ | refine af_ ?_ GE109.out | refine af_ ?_ GE110.out | refine af_ ?_ GE111.out) | exact HB.out)⟩
end Go.Proofs.Ytjnaokdncemggaa.PAll

end

section
namespace Go.Proofs.Ytjnaokdncemggaa.PAll
open Go.RowKit Go.Proofs.YtjnaokdncemggaaW.PrintWords Go.Proofs.YtjnaokdncemggaaW.PrintLast Go.Proofs.YtjnaokdncemggaaW.PrintMore
attribute [local go_sem] max2_int min2_int max_two min_two max_three min_three max_four min_four   -- for this text's walks alone
set_option linter.unusedVariables false
set_option linter.unusedSimpArgs false
def spec_l9Flat.f (a0_0 : Bool) (a0_1 : Int) (l0_2 : List (S93)) (l1 : List (S83)) : Option (List (S83)) := l9flat 1000 a0_0 a0_1 l0_2 l1
theorem spec_l9Flat.calls (a0_0 : Bool) (a0_1 : Int) (A0_2 : Option Addr) (c0_2 : Nat) (l0_2 : List (S93)) (P1_ : Nat → Prop) (u9000_ : Value) (l1 : List (S83)) (r : List (S83)) (w0 w : World) (hB : Below w0.heap.size w0 w) (hr0_2 : ∀ W_, Kept w W_ (fun k_ => P1_ k_) → Kd.C k93 W_ A0_2 l0_2.length l0_2) (hc0_2 : l0_2.length ≤ c0_2) (ho1 : Kd.R k83 83 w w0.heap.size P1_ u9000_ l1) (h : spec_l9Flat.f a0_0 a0_1 l0_2 l1 = some r) :
    Calls Try.prog 71 #[.agg #[.bool a0_0, .int .i64 a0_1, .slice A0_2 l0_2.length c0_2], u9000_] w fun e w' => ∃ v0_ : Value, e = .returned (v0_) ∧ Kd.R k83 83 w' w0.heap.size (fun k_ => (P1_ k_ ∨ w.heap.size ≤ k_)) v0_ r ∧ Below w0.heap.size w0 w' ∧ Kept w w' (fun k_ => P1_ k_) := by
  exact l9flat_calls 1000 a0_0 a0_1 A0_2 c0_2 l0_2 P1_ u9000_ l1 r w0 w hB hr0_2 hc0_2 ho1 h
end Go.Proofs.Ytjnaokdncemggaa.PAll

end

section
namespace Go.Proofs.Ytjnaokdncemggaa.PAll
open Go.RowKit Go.Proofs.YtjnaokdncemggaaW.PrintWords Go.Proofs.YtjnaokdncemggaaW.PrintLast Go.Proofs.YtjnaokdncemggaaW.PrintMore
attribute [local go_sem] max2_int min2_int max_two min_two max_three min_three max_four min_four   -- for this text's walks alone
set_option linter.unusedVariables false
set_option linter.unusedSimpArgs false
def spec_l9Add.f : Nat → Bool → Int → List (S93) → Int → Option (Bool × Int × (List (S93)))
  | 0, _, _, _, _ => none
  | k + 1, a0_0, a0_1, l0_2, a1 => if a0_0 = true then (if 0 < (l0_2.length : Int) then ((spec_l9Add.f k ((rd_T93 l0_2 0).f0) ((rd_T93 l0_2 0).f1) ((rd_T93 l0_2 0).f2) a1).bind fun bt462 => (if 1 < (l0_2.length : Int) then ((spec_l9Add.f k ((rd_T93 l0_2 1).f0) ((rd_T93 l0_2 1).f1) ((rd_T93 l0_2 1).f2) a1).bind fun bt468 => (some (true, a0_1, (([(⟨bt462.1, bt462.2.1, bt462.2.2⟩ : S93), (⟨bt468.1, bt468.2.1, bt468.2.2⟩ : S93)] : List (S93)))))) else (none))) else (none)) else (some (false, Int.tmod (wrap64 (a0_1 + a1)) 100, ([] : List (S93))))
theorem spec_l9Add.mono_l : ∀ k, (∀ y0 y1 y2 y3, LeO (spec_l9Add.f k y0 y1 y2 y3) (spec_l9Add.f (k + 1) y0 y1 y2 y3))
  | 0 => fun _ _ _ _ r h => by simp [spec_l9Add.f] at h
  | k + 1 => by
    have ih0 := spec_l9Add.mono_l k
    · intro y0 y1 y2 y3
      unfold spec_l9Add.f
      repeat' first
      | (with_reducible exact ih0 _ _ _ _)
      | (with_reducible exact LeO.refl _)
      | (with_reducible exact LeO.none _)
      | (with_reducible refine LeO.ite ?_ ?_)
      | (with_reducible refine LeO.bind ?_ (fun _ => ?_))
      | exact ih0 _ _ _ _
      | exact LeO.none _
      | refine LeO.ite ?_ ?_
      | refine LeO.bind ?_ (fun _ => ?_)
theorem spec_l9Add.mono : ∀ a0 a1 a2 a3 k, LeO (spec_l9Add.f k a0 a1 a2 a3) (spec_l9Add.f (k + 1) a0 a1 a2 a3) := by
  intro a0 a1 a2 a3 k
  have ih0 := spec_l9Add.mono_l k
  exact ih0 a0 a1 a2 a3
def spec_l9Add.T3 : Bool × List (List Nat × List Nat) := (true, [([], []), ([0], [0]), ([], []), ([2], [2]), ([3], [3]), ([4], [4]), ([], []), ([5, 6], [5, 6]), ([], []), ([8], [8]), ([9], [9]), ([10], [10]), ([], []), ([11, 12, 7], [11, 12]), ([7, 13], [7, 13]), ([1, 14], [1, 14]), ([15, 13, 0, 1, 2, 3, 4, 5, 6, 7, 8, 9, 10, 11, 12, 13, 14, 15], [15])])
def spec_l9Add.B3 : List Nat := [0, 1, 0, 4, 12, 28, 0, 124, 0, 256, 768, 1792, 0, 8188, 16380, 32767, 65535]
theorem spec_l9Add.tab3 : rtab .any (opsOf Try.f72 3) = spec_l9Add.T3 := by kernel_rfl
theorem spec_l9Add.bits3 : waitsOk spec_l9Add.T3.2 spec_l9Add.B3 = true := by kernel_rfl
set_option maxHeartbeats 8000000 in
set_option maxRecDepth 100000 in
theorem spec_l9Add.calls (k : Nat) : ∀ (a0_0 : Bool) (a0_1 : Int) (A0_2 : Option Addr) (c0_2 : Nat) (l0_2 : List (S93)) (a1 : Int) (r1 : Bool) (r2 : Int) (r3 : List (S93)) (w : World) (hr0_2 : Kd.C k93 w A0_2 l0_2.length l0_2) (hc0_2 : l0_2.length ≤ c0_2) (h : spec_l9Add.f k a0_0 a0_1 l0_2 a1 = some (r1, r2, r3)),
    Calls Try.prog 72 #[.agg #[.bool a0_0, .int .i64 a0_1, .slice A0_2 l0_2.length c0_2], .int .i64 a1] w fun e w' => ∃ v2_ : Value, e = .returned (.agg #[.bool r1, .int .i64 r2, v2_]) ∧ Kd.N k93 93 w' w.heap.size (fun k_ => (w.heap.size ≤ k_)) v2_ r3 ∧ Below w.heap.size w w' := by
  induction k using Nat.strongRecOn with
  | _ k ih =>
  intro a0_0 a0_1 A0_2 c0_2 l0_2 a1 r1 r2 r3 w hr0_2 hc0_2 h
  cases k with
  | zero => exact absurd h (by simp [spec_l9Add.f])
  | succ k =>
  simp only [spec_l9Add.f] at h
  have hu93 := Try.underlying93
  have HR0_2 := ab_ hr0_2
  have HC0_2 := ab_ hc0_2
  clear hr0_2 hc0_2
  have HB := ab_ (av_ w.heap.size w)
  have H : (if a0_0 = true then (if 0 < (l0_2.length : Int) then ((spec_l9Add.f k ((rd_T93 l0_2 0).f0) ((rd_T93 l0_2 0).f1) ((rd_T93 l0_2 0).f2) a1).bind fun bt462 => (if 1 < (l0_2.length : Int) then ((spec_l9Add.f k ((rd_T93 l0_2 1).f0) ((rd_T93 l0_2 1).f1) ((rd_T93 l0_2 1).f2) a1).bind fun bt468 => (some (true, a0_1, (([(⟨bt462.1, bt462.2.1, bt462.2.2⟩ : S93), (⟨bt468.1, bt468.2.1, bt468.2.2⟩ : S93)] : List (S93)))))) else (none))) else (none)) else (some (false, Int.tmod (wrap64 (a0_1 + a1)) 100, ([] : List (S93))))) = some (r1, r2, r3) := h
  clear h
  by_cases c3 : a0_0 = true
  · subst c3
    have H1 : (if 0 < (l0_2.length : Int) then ((spec_l9Add.f k ((rd_T93 l0_2 0).f0) ((rd_T93 l0_2 0).f1) ((rd_T93 l0_2 0).f2) a1).bind fun bt462 => (if 1 < (l0_2.length : Int) then ((spec_l9Add.f k ((rd_T93 l0_2 1).f0) ((rd_T93 l0_2 1).f1) ((rd_T93 l0_2 1).f2) a1).bind fun bt468 => (some (true, a0_1, (([(⟨bt462.1, bt462.2.1, bt462.2.2⟩ : S93), (⟨bt468.1, bt468.2.1, bt468.2.2⟩ : S93)] : List (S93)))))) else (none))) else (none)) = some (r1, r2, r3) := by rw [if_pos rfl] at H; exact H
    clear H
    have H := H1
    clear H1
    by_cases c4 : 0 < (l0_2.length : Int)
    · rw [if_pos c4] at H
      have c4b0 : decide (0 < (l0_2.length : Int)) = true := at_ c4
      have c4b1 : decide (0 < l0_2.length) = true := at_ (by omega)
      clear c4
      replace H := Option.bind_eq_some_iff.mp H
      obtain ⟨⟨t462, t463, t464⟩, A50, H⟩ := H
      replace H : (if 1 < (l0_2.length : Int) then ((spec_l9Add.f k ((rd_T93 l0_2 1).f0) ((rd_T93 l0_2 1).f1) ((rd_T93 l0_2 1).f2) a1).bind fun bt468 => (some (true, a0_1, (([(⟨t462, t463, t464⟩ : S93), (⟨bt468.1, bt468.2.1, bt468.2.2⟩ : S93)] : List (S93)))))) else (none)) = some (r1, r2, r3) := H
      have A5 := ab_ A50
      clear A50
      by_cases c6 : 1 < (l0_2.length : Int)
      · rw [if_pos c6] at H
        have c6b0 : decide (1 < (l0_2.length : Int)) = true := at_ c6
        have c6b1 : decide (1 < l0_2.length) = true := at_ (by omega)
        clear c6
        replace H := Option.bind_eq_some_iff.mp H
        obtain ⟨⟨t468, t469, t470⟩, A70, H⟩ := H
        replace H : (some (true, a0_1, (([(⟨t462, t463, t464⟩ : S93), (⟨t468, t469, t470⟩ : S93)] : List (S93))))) = some (r1, r2, r3) := H
        have A7 := ab_ A70
        clear A70
        obtain ⟨y473, hy473⟩ : ∃ y_ : List (S93), y_ = (([(⟨t462, t463, t464⟩ : S93), (⟨t468, t469, t470⟩ : S93)] : List (S93))) := ⟨_, rfl⟩
        replace H : (some (true, a0_1, y473)) = some (r1, r2, r3) := by first | (rw [hy473]; with_reducible exact H) | (have H2_ := (Option.bind_some _ _).symm.trans H; rw [hy473]; with_reducible exact H2_) | (have H2_ := (Option.bind_some _ _).symm.trans H; with_reducible exact H2_) | with_reducible exact H | (rw [hy473]; exact H) | exact H
        have Ny473 := ab_ hy473
        clear hy473
        simp only [Option.some.injEq, Prod.mk.injEq] at H
        obtain ⟨rfl, rfl, rfl⟩ := H
        go_enter Try.func72, Try.ntmps72
        try go_wp2_with (first | ((with_reducible refine gate_dst (N := 2) rfl ?_); refine box_event ?hg (N := 2) ?hd (cs := #[.bool true, .int .i64 a0_1, .slice A0_2 l0_2.length c0_2]) (t := 93) ?hr ?_; (case hd => rfl); (case hg => rfl); (case hr => first | (go_simp; done) | (go_simp; rfl)); intro gb459 hg w8 hbox hb; have n0_ := ab_ (au_ (by repeat (first | (with_reducible first | exact HB.out | apply ai_ | apply ag_ | apply ah_) | exact HB.out)) hb); have n1_ := ab_ (hbox); have n2_ := ab_ ((by rw [hg]; exact (below_size (by repeat (first | (with_reducible first | exact HB.out | apply ai_ | apply ag_ | apply ah_) | exact HB.out))) : w.heap.size ≤ gb459)); have n3_ := ab_ ((by rw [hg]; exact (below_size (by repeat (first | (with_reducible first | exact HB.out | apply ai_ | apply ag_ | apply ah_) | exact HB.out))) : w.heap.size ≤ gb459)); clear HB; have HB := n0_; have BK459 := n1_; have GW459 := n2_; have GE459 := n3_; clear n0_ n1_ n2_ n3_; clear hb hbox hg) | ((with_reducible refine gate_dst (N := 4) rfl ?_); refine box_event ?hg (N := 4) ?hd (cs := #[.bool false, .int .i64 0, .slice none 0 0]) (t := 93) ?hr ?_; (case hd => rfl); (case hg => rfl); (case hr => first | (go_simp; done) | (go_simp; rfl)); intro gb460 hg w9 hbox hb; have n0_ := ab_ (blk_below (g := gb459) (o := .cells #[.bool true, .int .i64 a0_1, .slice A0_2 l0_2.length c0_2] 93 (0, 0)) (by (with_reducible repeat (first | refine ac_ ?_ _ | refine ae_ ?_ | refine ad_ ?_ _)); exact BK459.out) hb); have n1_ := ab_ (au_ (by repeat (first | (with_reducible first | exact HB.out | apply ai_ | apply ag_ | apply ah_ | refine af_ ?_ GE459.out) | exact HB.out)) hb); have n2_ := ab_ (hbox); have n3_ := ab_ ((by rw [hg]; exact (below_size (by repeat (first | (with_reducible first | exact HB.out | apply ai_ | apply ag_ | apply ah_ | refine af_ ?_ GE459.out) | exact HB.out))) : w.heap.size ≤ gb460)); have n4_ := ab_ ((by rw [hg]; exact (below_size (by repeat (first | (with_reducible first | exact HB.out | apply ai_ | apply ag_ | apply ah_ | refine af_ ?_ GE459.out) | exact HB.out))) : w.heap.size ≤ gb460)); have n5_ := ab_ ((by rw [hg]; exact ak_ (blk_lt (g := gb459) (o := .cells #[.bool true, .int .i64 a0_1, .slice A0_2 l0_2.length c0_2] 93 (0, 0)) (by (with_reducible repeat (first | refine ac_ ?_ _ | refine ae_ ?_ | refine ad_ ?_ _)); exact BK459.out)) : gb459 ≠ gb460)); have n6_ := ab_ ((by rw [hg]; exact Nat.ne_of_gt (blk_lt (g := gb459) (o := .cells #[.bool true, .int .i64 a0_1, .slice A0_2 l0_2.length c0_2] 93 (0, 0)) (by (with_reducible repeat (first | refine ac_ ?_ _ | refine ae_ ?_ | refine ad_ ?_ _)); exact BK459.out)) : gb460 ≠ gb459)); clear BK459; clear HB; have BK459 := n0_; have HB := n1_; have BK460 := n2_; have GW460 := n3_; have GE460 := n4_; have NB459_460 := n5_; have NB460_459 := n6_; clear n0_ n1_ n2_ n3_ n4_ n5_ n6_; clear hb hbox hg; have hnb10 := NB459_460.out; have hnc10 := NB460_459.out; have hcz11_0 : w9.cell? ⟨gb459, 0, none⟩ = some (.bool true) := (an_ BK459.out 0).trans rfl; have hcz11_1 : w9.cell? ⟨gb459, 1, none⟩ = some (.int .i64 a0_1) := (an_ BK459.out 1).trans rfl; have hcz11_2 : w9.cell? ⟨gb459, 2, none⟩ = some (.slice A0_2 l0_2.length c0_2) := (an_ BK459.out 2).trans rfl; have hfz11_0 := am_ BK459.out 0; have hfz11_1 := am_ BK459.out 1; have hfz11_2 := am_ BK459.out 2))
        have n0_ := ab_ (ae_ BK459.out)
        have n1_ := ab_ (ae_ BK460.out)
        have n2_ := ab_ (ah_ HB.out)
        clear BK459
        clear BK460
        clear HB
        have BK459 := n0_
        have BK460 := n1_
        have HB := n2_
        clear n0_ n1_ n2_
        have p461 : 0 ≤ (0 : Int) := (by omega)
        have q461 : 0 < (l0_2.length : Int) := of_decide_eq_true (by first | (with_reducible assumption) | assumption)
        obtain ⟨ad461, A461_2, c461_2, e461, hx461_0, hx461_1, hx461_2, hl461_2, hi461_2⟩ := at_T93 HR0_2.out 0 p461 q461
        have hw461_2 := hx461_2
        (try rw [show ((0 : Int)).toNat = 0 from rfl] at hw461_2)
        (try rw [show 0 * 3 = 0 from rfl] at hw461_2)
        (try rw [Addr.add_zero'] at hw461_2)
        have hw461_1 := hx461_1
        (try rw [show ((0 : Int)).toNat = 0 from rfl] at hw461_1)
        (try rw [show 0 * 3 = 0 from rfl] at hw461_1)
        (try rw [Addr.add_zero'] at hw461_1)
        have hw461_0 := hx461_0
        (try rw [show ((0 : Int)).toNat = 0 from rfl] at hw461_0)
        (try rw [show 0 * 3 = 0 from rfl] at hw461_0)
        (try rw [Addr.add_zero'] at hw461_0)
        cases e461
        have qi461 : (0 < l0_2.length) = True := eq_true (by omega)
        (try rw [show ((0 : Int)).toNat = 0 from rfl] at hx461_0)
        (try rw [show 0 * 3 = 0 from rfl] at hx461_0)
        (try rw [Addr.add_zero'] at hx461_0)
        (try rw [show ((0 : Int)).toNat = 0 from rfl] at hx461_1)
        (try rw [show 0 * 3 = 0 from rfl] at hx461_1)
        (try rw [Addr.add_zero'] at hx461_1)
        (try rw [show ((0 : Int)).toNat = 0 from rfl] at hx461_2)
        (try rw [show 0 * 3 = 0 from rfl] at hx461_2)
        (try rw [Addr.add_zero'] at hx461_2)
        replace hx461_0 := (HB.out.cell (aa_ w _ hx461_0)).trans hx461_0
        replace hx461_1 := (HB.out.cell (aa_ w _ hx461_1)).trans hx461_1
        replace hx461_2 := (HB.out.cell (aa_ w _ hx461_2)).trans hx461_2
        have HR461_2 := ab_ hi461_2
        have HC461_2 := ab_ hl461_2
        clear hi461_2 hl461_2
        replace p461 := eq_true p461
        replace q461 := eq_true q461
        have p467 : 0 ≤ (1 : Int) := (by omega)
        have q467 : 1 < (l0_2.length : Int) := of_decide_eq_true (by first | (with_reducible assumption) | assumption)
        obtain ⟨ad467, A467_2, c467_2, e467, hx467_0, hx467_1, hx467_2, hl467_2, hi467_2⟩ := at_T93 HR0_2.out 1 p467 q467
        have hw467_2 := hx467_2
        (try rw [show ((1 : Int)).toNat = 1 from rfl] at hw467_2)
        (try rw [show 1 * 3 = 3 from rfl] at hw467_2)
        (try simp only [Nat.reduceMul, Nat.reduceEqDiff, Go.Addr.add, ↓reduceIte] at hw467_2)
        have hw467_1 := hx467_1
        (try rw [show ((1 : Int)).toNat = 1 from rfl] at hw467_1)
        (try rw [show 1 * 3 = 3 from rfl] at hw467_1)
        (try simp only [Nat.reduceMul, Nat.reduceEqDiff, Go.Addr.add, ↓reduceIte] at hw467_1)
        have hw467_0 := hx467_0
        (try rw [show ((1 : Int)).toNat = 1 from rfl] at hw467_0)
        (try rw [show 1 * 3 = 3 from rfl] at hw467_0)
        (try simp only [Nat.reduceMul, Nat.reduceEqDiff, Go.Addr.add, ↓reduceIte] at hw467_0)
        obtain rfl : ad461 = ad467 := (by injection e467)
        (try simp only [show (1 : Int).toNat = 1 from rfl, Nat.reduceMul, Nat.reduceEqDiff, Go.Addr.add, ↓reduceIte] at hx467_0)
        (try simp only [show (1 : Int).toNat = 1 from rfl, Nat.reduceMul, Nat.reduceEqDiff, Go.Addr.add, ↓reduceIte] at hx467_1)
        (try simp only [show (1 : Int).toNat = 1 from rfl, Nat.reduceMul, Nat.reduceEqDiff, Go.Addr.add, ↓reduceIte] at hx467_2)
        have qi467 : (1 < l0_2.length) = True := eq_true (by omega)
        (try rw [show ((1 : Int)).toNat = 1 from rfl] at hx467_0)
        (try rw [show 1 * 3 = 3 from rfl] at hx467_0)
        (try rw [show ((1 : Int)).toNat = 1 from rfl] at hx467_1)
        (try rw [show 1 * 3 = 3 from rfl] at hx467_1)
        (try rw [show ((1 : Int)).toNat = 1 from rfl] at hx467_2)
        (try rw [show 1 * 3 = 3 from rfl] at hx467_2)
        replace hx467_0 := (HB.out.cell (aa_ w _ hx467_0)).trans hx467_0
        replace hx467_1 := (HB.out.cell (aa_ w _ hx467_1)).trans hx467_1
        replace hx467_2 := (HB.out.cell (aa_ w _ hx467_2)).trans hx467_2
        have HR467_2 := ab_ hi467_2
        have HC467_2 := ab_ hl467_2
        clear hi467_2 hl467_2
        replace p467 := eq_true p467
        replace q467 := eq_true q467
        refine start_ (n := 17) (S := fun w' => w'.cell? ⟨gb459, 0, none⟩ = some (.bool true) ∧ w'.cell? ⟨gb459, 1, none⟩ = some (.int .i64 a0_1) ∧ w'.cell? ⟨gb459, 2, none⟩ = some (.slice (some ad461) l0_2.length c0_2) ∧ w'.cell? ad461 = some (.bool ((rd_T93 l0_2 0).f0)) ∧ w'.cell? ⟨ad461.block, ad461.off + 1, none⟩ = some (.int .i64 ((rd_T93 l0_2 0).f1)) ∧ w'.cell? ⟨ad461.block, ad461.off + 2, none⟩ = some (.slice A461_2 ((rd_T93 l0_2 0).f2).length c461_2) ∧ w'.cell? ⟨ad461.block, ad461.off + 3, none⟩ = some (.bool ((rd_T93 l0_2 1).f0)) ∧ w'.cell? ⟨ad461.block, ad461.off + 3 + 1, none⟩ = some (.int .i64 ((rd_T93 l0_2 1).f1)) ∧ w'.cell? ⟨ad461.block, ad461.off + 3 + 2, none⟩ = some (.slice A467_2 ((rd_T93 l0_2 1).f2).length c467_2)) (ds := []) #[false, false, false, false, false, false, false, false, false, false, false, false, false, false, false, false, false] (by kernel_rfl) rfl rfl ⟨(an_ BK459.out 0).trans rfl, (an_ BK459.out 1).trans rfl, (an_ BK459.out 2).trans rfl, ((HB.out.cell (aa_ w _ hw461_0)).trans hw461_0), ((HB.out.cell (aa_ w _ hw461_1)).trans hw461_1), ((HB.out.cell (aa_ w _ hw461_2)).trans hw461_2), ((HB.out.cell (aa_ w _ hw467_0)).trans hw467_0), ((HB.out.cell (aa_ w _ hw467_1)).trans hw467_1), ((HB.out.cell (aa_ w _ hw467_2)).trans hw467_2)⟩ (fun hHeld => ?_); refine with_tabW spec_l9Add.tab3 spec_l9Add.bits3 (fun HT_ HW_ => ?_)
        generalize w9.drew = w12 at BK459 BK460 HB HR461_2 HR467_2 hx461_0 hx461_1 hx461_2 hx467_0 hx467_1 hx467_2 hHeld ⊢
        refine pure_ (i := 0) (N := some 14) (v := ?_) (a' := ?_) #[true, false, false, false, false, false, false, false, false, false, false, false, false, false, false, false, false] rfl rfl (any_of HT_.out (by kernel_rfl)) (fun _ _ _ h => h) (Or.inl ⟨by rfl, ?_⟩) ?_ ?_
        rotate_left
        · intro w'
          go_simp
          with_reducible rfl
        rotate_left
        · simp only [Act.put, List.setIfInBounds_toArray, List.set_cons_zero, List.set_cons_succ, i64_w, i32_w]
          rfl
        refine pure_ (i := 2) (N := some 16) (v := ?_) (a' := ?_) #[true, false, true, false, false, false, false, false, false, false, false, false, false, false, false, false, false] rfl rfl (any_of HT_.out (by kernel_rfl)) (fun _ _ _ h => h) (Or.inl ⟨by rfl, ?_⟩) ?_ ?_
        rotate_left
        · intro w'
          go_simp
          with_reducible rfl
        rotate_left
        · simp only [Act.put, List.setIfInBounds_toArray, List.set_cons_zero, List.set_cons_succ, i64_w, i32_w]
          rfl
        refine pure_ (i := 6) (N := some 20) (v := ?_) (a' := ?_) #[true, false, true, false, false, false, true, false, false, false, false, false, false, false, false, false, false] rfl rfl (any_of HT_.out (by kernel_rfl)) (fun _ _ _ h => h) (Or.inl ⟨by rfl, ?_⟩) ?_ ?_
        rotate_left
        · intro w'
          go_simp
          with_reducible rfl
        rotate_left
        · simp only [Act.put, List.setIfInBounds_toArray, List.set_cons_zero, List.set_cons_succ, i64_w, i32_w]
          rfl
        refine pure_ (i := 8) (N := some 22) (v := ?_) (a' := ?_) #[true, false, true, false, false, false, true, false, true, false, false, false, false, false, false, false, false] rfl rfl (any_of HT_.out (by kernel_rfl)) (fun _ _ _ h => h) (Or.inl ⟨by rfl, ?_⟩) ?_ ?_
        rotate_left
        · intro w'
          go_simp
          with_reducible rfl
        rotate_left
        · simp only [Act.put, List.setIfInBounds_toArray, List.set_cons_zero, List.set_cons_succ, i64_w, i32_w]
          rfl
        refine pure_ (i := 12) (N := some 26) (v := ?_) (a' := ?_) #[true, false, true, false, false, false, true, false, true, false, false, false, true, false, false, false, false] rfl rfl (any_of HT_.out (by kernel_rfl)) (fun _ _ _ h => h) (Or.inl ⟨by rfl, ?_⟩) ?_ ?_
        rotate_left
        · intro w'
          go_simp
          with_reducible rfl
        rotate_left
        · simp only [Act.put, List.setIfInBounds_toArray, List.set_cons_zero, List.set_cons_succ, i64_w, i32_w]
          rfl
        refine take_ (i := 1) (N := some 15) (v := ?_) (a' := ?_) #[true, true, true, false, false, false, true, false, true, false, false, false, true, false, false, false, false] rfl rfl (take_ofW HT_.out HW_.out (by kernel_rfl)) (fun _ _ _ h => h) (Or.inl ⟨by rfl, ?_⟩) hHeld ?_ ?_
        rotate_left
        · rintro w' ⟨s0, s1, s2, s3, s4, s5, s6, s7, s8⟩
          go_simp
          with_reducible rfl
        rotate_left
        · simp only [Act.put, List.setIfInBounds_toArray, List.set_cons_zero, List.set_cons_succ, i64_w, i32_w]
          rfl
        refine take_ (i := 3) (N := some 17) (v := ?_) (a' := ?_) #[true, true, true, true, false, false, true, false, true, false, false, false, true, false, false, false, false] rfl rfl (take_ofW HT_.out HW_.out (by kernel_rfl)) (fun _ _ _ h => h) (Or.inl ⟨by rfl, ?_⟩) hHeld ?_ ?_
        rotate_left
        · rintro w' ⟨s0, s1, s2, s3, s4, s5, s6, s7, s8⟩
          go_simp
          with_reducible rfl
        rotate_left
        · simp only [Act.put, List.setIfInBounds_toArray, List.set_cons_zero, List.set_cons_succ, i64_w, i32_w]
          rfl
        refine pure_ (i := 4) (N := some 18) (v := ?_) (a' := ?_) #[true, true, true, true, true, false, true, false, true, false, false, false, true, false, false, false, false] rfl rfl (any_of HT_.out (by kernel_rfl)) (fun _ _ _ h => h) (Or.inl ⟨by rfl, ?_⟩) ?_ ?_
        rotate_left
        · intro w'
          go_simp
          with_reducible rfl
        rotate_left
        · simp only [Act.put, List.setIfInBounds_toArray, List.set_cons_zero, List.set_cons_succ, i64_w, i32_w]
          rfl
        refine take_ (i := 5) (N := some 19) (v := ?_) (a' := ?_) #[true, true, true, true, true, true, true, false, true, false, false, false, true, false, false, false, false] rfl rfl (take_ofW HT_.out HW_.out (by kernel_rfl)) (fun _ _ _ h => h) (Or.inl ⟨by rfl, ?_⟩) hHeld ?_ ?_
        rotate_left
        · rintro w' ⟨s0, s1, s2, s3, s4, s5, s6, s7, s8⟩
          go_simp
          with_reducible rfl
        rotate_left
        · simp only [Act.put, List.setIfInBounds_toArray, List.set_cons_zero, List.set_cons_succ, i64_w, i32_w]
          rfl
        refine take_ (i := 9) (N := some 23) (v := ?_) (a' := ?_) #[true, true, true, true, true, true, true, false, true, true, false, false, true, false, false, false, false] rfl rfl (take_ofW HT_.out HW_.out (by kernel_rfl)) (fun _ _ _ h => h) (Or.inl ⟨by rfl, ?_⟩) hHeld ?_ ?_
        rotate_left
        · rintro w' ⟨s0, s1, s2, s3, s4, s5, s6, s7, s8⟩
          go_simp
          with_reducible rfl
        rotate_left
        · simp only [Act.put, List.setIfInBounds_toArray, List.set_cons_zero, List.set_cons_succ, i64_w, i32_w]
          rfl
        refine pure_ (i := 10) (N := some 24) (v := ?_) (a' := ?_) #[true, true, true, true, true, true, true, false, true, true, true, false, true, false, false, false, false] rfl rfl (any_of HT_.out (by kernel_rfl)) (fun _ _ _ h => h) (Or.inl ⟨by rfl, ?_⟩) ?_ ?_
        rotate_left
        · intro w'
          go_simp
          with_reducible rfl
        rotate_left
        · simp only [Act.put, List.setIfInBounds_toArray, List.set_cons_zero, List.set_cons_succ, i64_w, i32_w]
          rfl
        refine take_ (i := 11) (N := some 25) (v := ?_) (a' := ?_) #[true, true, true, true, true, true, true, false, true, true, true, true, true, false, false, false, false] rfl rfl (take_ofW HT_.out HW_.out (by kernel_rfl)) (fun _ _ _ h => h) (Or.inl ⟨by rfl, ?_⟩) hHeld ?_ ?_
        rotate_left
        · rintro w' ⟨s0, s1, s2, s3, s4, s5, s6, s7, s8⟩
          go_simp
          with_reducible rfl
        rotate_left
        · simp only [Act.put, List.setIfInBounds_toArray, List.set_cons_zero, List.set_cons_succ, i64_w, i32_w]
          rfl
        refine one_ (i := 7) (N := some 21) #[true, true, true, true, true, true, true, true, true, true, true, true, true, false, false, false, false] rfl rfl (one_of HT_.out (by kernel_rfl)) (by decide) (fun K hK => ?_)
        refine goes_ Try.func72 (by kernel_rfl) rfl #[.agg #[.bool ((rd_T93 l0_2 0).f0), .int .i64 ((rd_T93 l0_2 0).f1), .slice A461_2 ((rd_T93 l0_2 0).f2).length c461_2], .int .i64 a1] (by rfl) rfl rfl (by (try simp only [List.map_toArray, List.map_cons, List.map_nil]); first | done | rfl | (simp only [List.length_drop, List.length_take]; rfl)) ?_
        with_reducible refine (ih k (by omega) ((rd_T93 l0_2 0).f0) ((rd_T93 l0_2 0).f1) _ _ ((rd_T93 l0_2 0).f2) a1 t462 t463 t464 _ ?side1 ?side2 A5.out).mono ?_
        (case side1 => repeat (first | exact (Kd.C_below HR461_2.out HB.out) | (with_reducible refine ar_ ?_ _) | (with_reducible refine as_ ?_ _) | (with_reducible refine Kd.C_drew ?_)))
        (case side2 => exact HC461_2.out)
        rintro e w13 ⟨v465, rfl, ho0, hb⟩
        refine ⟨_, rfl, ?_⟩
        have n0_ := ab_ (Kd.N_lower (Kd.N_mono (ok' := fun k_ => (w.heap.size ≤ k_) ∧ k_ ≠ gb459 ∧ k_ ≠ gb460) ho0 (fun k_ hk_ => ⟨(Nat.le_trans (below_size (by repeat (first | (with_reducible first | exact HB.out | apply ai_ | apply ag_ | apply ah_ | refine af_ ?_ GE459.out | refine af_ ?_ GE460.out) | exact HB.out))) hk_), (Kd.freshB (g := gb459) (o := .cells #[.bool true, .int .i64 a0_1, .slice (some ad461) l0_2.length c0_2] 93 (0, 0)) (by (with_reducible repeat (first | refine ac_ ?_ _ | refine ae_ ?_ | refine ad_ ?_ _)); exact BK459.out) k_ hk_), (Kd.freshB (g := gb460) (o := .cells #[.bool false, .int .i64 0, .slice none 0 0] 93 (0, 0)) (by (with_reducible repeat (first | refine ac_ ?_ _ | refine ae_ ?_ | refine ad_ ?_ _)); exact BK460.out) k_ hk_)⟩)) (below_size (by repeat (first | (with_reducible first | exact HB.out | apply ai_ | apply ag_ | apply ah_ | refine af_ ?_ GE459.out | refine af_ ?_ GE460.out) | exact HB.out))))
        have n1_ := ab_ (blk_below (g := gb459) (o := .cells #[.bool true, .int .i64 a0_1, .slice (some ad461) l0_2.length c0_2] 93 (0, 0)) (by (with_reducible repeat (first | refine ac_ ?_ _ | refine ae_ ?_ | refine ad_ ?_ _)); exact BK459.out) hb)
        have n2_ := ab_ (blk_below (g := gb460) (o := .cells #[.bool false, .int .i64 0, .slice none 0 0] 93 (0, 0)) (by (with_reducible repeat (first | refine ac_ ?_ _ | refine ae_ ?_ | refine ad_ ?_ _)); exact BK460.out) hb)
        have n3_ := ab_ (au_ (by repeat (first | (with_reducible first | exact HB.out | apply ai_ | apply ag_ | apply ah_ | refine af_ ?_ GE459.out | refine af_ ?_ GE460.out) | exact HB.out)) hb)
        clear BK459
        clear BK460
        clear HB
        have HO466 := n0_
        have BK459 := n1_
        have BK460 := n2_
        have HB := n3_
        clear n0_ n1_ n2_ n3_
        (try clear hb)
        (try clear hb2)
        (try clear hk)
        (try clear hi)
        (try clear ho0)
        refine hK.out _ _ ⟨(an_ BK459.out 0).trans rfl, (an_ BK459.out 1).trans rfl, (an_ BK459.out 2).trans rfl, ((HB.out.cell (aa_ w _ hw461_0)).trans hw461_0), ((HB.out.cell (aa_ w _ hw461_1)).trans hw461_1), ((HB.out.cell (aa_ w _ hw461_2)).trans hw461_2), ((HB.out.cell (aa_ w _ hw467_0)).trans hw467_0), ((HB.out.cell (aa_ w _ hw467_1)).trans hw467_1), ((HB.out.cell (aa_ w _ hw467_2)).trans hw467_2)⟩ (fun hHeld => ?_)
        clear hK K
        refine norm_ (a' := ?_) ?_ ?_
        rotate_left
        · show Act.put _ (some 21) _ = _
          simp only [Act.put, List.setIfInBounds_toArray, List.set_cons_zero, List.set_cons_succ, i64_w, i32_w]
          rfl
        refine one_ (i := 13) (N := some 27) #[true, true, true, true, true, true, true, true, true, true, true, true, true, true, false, false, false] rfl rfl (one_of HT_.out (by kernel_rfl)) (by decide) (fun K hK => ?_)
        refine goes_ Try.func72 (by kernel_rfl) rfl #[.agg #[.bool ((rd_T93 l0_2 1).f0), .int .i64 ((rd_T93 l0_2 1).f1), .slice A467_2 ((rd_T93 l0_2 1).f2).length c467_2], .int .i64 a1] (by rfl) rfl rfl (by (try simp only [List.map_toArray, List.map_cons, List.map_nil]); first | done | rfl | (simp only [List.length_drop, List.length_take]; rfl)) ?_
        with_reducible refine (ih k (by omega) ((rd_T93 l0_2 1).f0) ((rd_T93 l0_2 1).f1) _ _ ((rd_T93 l0_2 1).f2) a1 t468 t469 t470 _ ?side1 ?side2 A7.out).mono ?_
        (case side1 => repeat (first | exact (Kd.C_below HR467_2.out HB.out) | (with_reducible refine ar_ ?_ _) | (with_reducible refine as_ ?_ _) | (with_reducible refine Kd.C_drew ?_)))
        (case side2 => exact HC467_2.out)
        rintro e w14 ⟨v471, rfl, ho0, hb⟩
        refine ⟨_, rfl, ?_⟩
        have n0_ := ab_ (Kd.N_elder' (by (with_reducible repeat (first | apply Kd.N_alloc | apply Kd.N_drewN | apply Kd.N_drew)); exact HO466.out) (Kd.N_base ho0) hb)
        have n1_ := ab_ (Kd.N_lower (Kd.N_mono (ok' := fun k_ => (w.heap.size ≤ k_) ∧ some k_ ≠ (v465 : Value).ownBlock ∧ k_ ≠ gb459 ∧ k_ ≠ gb460) ho0 (fun k_ hk_ => ⟨(Nat.le_trans (below_size (by repeat (first | (with_reducible first | exact HB.out | apply ai_ | apply ag_ | apply ah_ | refine af_ ?_ GE459.out | refine af_ ?_ GE460.out) | exact HB.out))) hk_), (Kd.fresh' (Kd.N_lt (by (with_reducible repeat (first | apply Kd.N_alloc | apply Kd.N_drewN | apply Kd.N_drew)); exact HO466.out)) k_ hk_), (Kd.freshB (g := gb459) (o := .cells #[.bool true, .int .i64 a0_1, .slice (some ad461) l0_2.length c0_2] 93 (0, 0)) (by (with_reducible repeat (first | refine ac_ ?_ _ | refine ae_ ?_ | refine ad_ ?_ _)); exact BK459.out) k_ hk_), (Kd.freshB (g := gb460) (o := .cells #[.bool false, .int .i64 0, .slice none 0 0] 93 (0, 0)) (by (with_reducible repeat (first | refine ac_ ?_ _ | refine ae_ ?_ | refine ad_ ?_ _)); exact BK460.out) k_ hk_)⟩)) (below_size (by repeat (first | (with_reducible first | exact HB.out | apply ai_ | apply ag_ | apply ah_ | refine af_ ?_ GE459.out | refine af_ ?_ GE460.out) | exact HB.out))))
        have n2_ := ab_ (blk_below (g := gb459) (o := .cells #[.bool true, .int .i64 a0_1, .slice (some ad461) l0_2.length c0_2] 93 (0, 0)) (by (with_reducible repeat (first | refine ac_ ?_ _ | refine ae_ ?_ | refine ad_ ?_ _)); exact BK459.out) hb)
        have n3_ := ab_ (blk_below (g := gb460) (o := .cells #[.bool false, .int .i64 0, .slice none 0 0] 93 (0, 0)) (by (with_reducible repeat (first | refine ac_ ?_ _ | refine ae_ ?_ | refine ad_ ?_ _)); exact BK460.out) hb)
        have n4_ := ab_ (au_ (by repeat (first | (with_reducible first | exact HB.out | apply ai_ | apply ag_ | apply ah_ | refine af_ ?_ GE459.out | refine af_ ?_ GE460.out) | exact HB.out)) hb)
        clear HO466
        clear BK459
        clear BK460
        clear HB
        have HO466 := n0_
        have HO472 := n1_
        have BK459 := n2_
        have BK460 := n3_
        have HB := n4_
        clear n0_ n1_ n2_ n3_ n4_
        (try clear hb)
        (try clear hb2)
        (try clear hk)
        (try clear hi)
        (try clear ho0)
        obtain ⟨Ao15, co15, eo15⟩ := Kd.N_slice HO466.out
        (first | subst eo15 | (injection eo15 with f1_ f2_ f3_; have f4_ := f1_.symm; have f5_ := f3_.symm; clear f1_ f2_ f3_; subst f4_; subst f5_))
        obtain ⟨Ao16, co16, eo16⟩ := Kd.N_slice HO472.out
        (first | subst eo16 | (injection eo16 with f1_ f2_ f3_; have f4_ := f1_.symm; have f5_ := f3_.symm; clear f1_ f2_ f3_; subst f4_; subst f5_))
        refine hK.out _ _ ⟨(an_ BK459.out 0).trans rfl, (an_ BK459.out 1).trans rfl, (an_ BK459.out 2).trans rfl, ((HB.out.cell (aa_ w _ hw461_0)).trans hw461_0), ((HB.out.cell (aa_ w _ hw461_1)).trans hw461_1), ((HB.out.cell (aa_ w _ hw461_2)).trans hw461_2), ((HB.out.cell (aa_ w _ hw467_0)).trans hw467_0), ((HB.out.cell (aa_ w _ hw467_1)).trans hw467_1), ((HB.out.cell (aa_ w _ hw467_2)).trans hw467_2)⟩ (fun hHeld => ?_)
        clear hK K
        refine norm_ (a' := ?_) ?_ ?_
        rotate_left
        · show Act.put _ (some 27) _ = _
          simp only [Act.put, List.setIfInBounds_toArray, List.set_cons_zero, List.set_cons_succ, i64_w, i32_w]
          rfl
        refine one_ (i := 14) (N := some 28) #[true, true, true, true, true, true, true, true, true, true, true, true, true, true, true, false, false] rfl rfl (one_of HT_.out (by kernel_rfl)) (by decide) (fun K hK => ?_)
        refine Kd.N_lit_step k93 _ 93 ?hg (N' := 28) ?hd (xs := ([(⟨t462, t463, t464⟩ : S93), (⟨t468, t469, t470⟩ : S93)] : List (S93))) (inner := [.bool t462, .int .i64 t463, .slice Ao15 t464.length co15, .bool t468, .int .i64 t469, .slice Ao16 t470.length co16]) (ok := (fun k_ => (w.heap.size ≤ k_) ∧ k_ ≠ gb459 ∧ k_ ≠ gb460)) (okp := (fun k_ => (w.heap.size ≤ k_) ∧ k_ ≠ gb459 ∧ k_ ≠ gb460)) ?hr ?hp (fun _ hk => hk) ((show ∀ k_, w14.heap.size ≤ k_ → (fun k_ => (w.heap.size ≤ k_) ∧ k_ ≠ gb459 ∧ k_ ≠ gb460) k_ from fun k_ hk => ⟨(Nat.le_trans (below_size (by repeat (first | (with_reducible first | exact HB.out | apply ai_ | apply ag_ | apply ah_ | refine af_ ?_ GE459.out | refine af_ ?_ GE460.out) | exact HB.out))) hk), Kd.freshB (g := gb459) (o := .cells #[.bool true, .int .i64 a0_1, .slice (some ad461) l0_2.length c0_2] 93 (0, 0)) (by (with_reducible repeat (first | refine ac_ ?_ _ | refine ae_ ?_ | refine ad_ ?_ _)); exact BK459.out) k_ hk, Kd.freshB (g := gb460) (o := .cells #[.bool false, .int .i64 0, .slice none 0 0] 93 (0, 0)) (by (with_reducible repeat (first | refine ac_ ?_ _ | refine ae_ ?_ | refine ad_ ?_ _)); exact BK460.out) k_ hk⟩) _ (Nat.le_refl _)) (av_ _ _) (Nat.le_refl _) (by simp) ?_; (case hd => rfl); (case hg => rfl); (case hr => first | (go_simp; done) | (go_simp; rfl)); (case hp => exact (Reps.c3 (show Kd.FK k93 _ _ (⟨t462, t463, t464⟩ : S93) [.bool t462, .int .i64 t463, .slice Ao15 t464.length co15] from (k93_mkF _ _ (⟨t462, t463, t464⟩ : S93) (Kd.N_reads' (Kd.N_mono (ok' := (fun k_ => (w.heap.size ≤ k_) ∧ k_ ≠ gb459 ∧ k_ ≠ gb460)) (HO466.out) (fun k_ hk => ⟨hk.1.1, ⟨hk.1.2.1, hk.1.2.2⟩⟩))).2.1 (Kd.N_F (Kd.N_mono (ok' := (fun k_ => (w.heap.size ≤ k_) ∧ k_ ≠ gb459 ∧ k_ ≠ gb460)) (HO466.out) (fun k_ hk => ⟨hk.1.1, ⟨hk.1.2.1, hk.1.2.2⟩⟩))))) (Reps.c3 (show Kd.FK k93 _ _ (⟨t468, t469, t470⟩ : S93) [.bool t468, .int .i64 t469, .slice Ao16 t470.length co16] from (k93_mkF _ _ (⟨t468, t469, t470⟩ : S93) (Kd.N_reads' (Kd.N_mono (ok' := (fun k_ => (w.heap.size ≤ k_) ∧ k_ ≠ gb459 ∧ k_ ≠ gb460)) (HO472.out) (fun k_ hk => ⟨hk.1, ⟨hk.2.2.1, hk.2.2.2⟩⟩))).2.1 (Kd.N_F (Kd.N_mono (ok' := (fun k_ => (w.heap.size ≤ k_) ∧ k_ ≠ gb459 ∧ k_ ≠ gb460)) (HO472.out) (fun k_ hk => ⟨hk.1, ⟨hk.2.2.1, hk.2.2.2⟩⟩))))) (Reps.none _ _))))
        intro v474 w17 ho18 hb hg_ hnew_
        clear hg_ hnew_
        (first | rw [← Ny473.out] at ho18 | (simp only [Int.reduceToNat] at ho18; rw [← Ny473.out] at ho18))
        have n0_ := ab_ (Kd.N_lower ho18 (below_size (by repeat (first | (with_reducible first | exact HB.out | apply ai_ | apply ag_ | apply ah_ | refine af_ ?_ GE459.out | refine af_ ?_ GE460.out) | exact HB.out))))
        have n1_ := ab_ (blk_below (g := gb459) (o := .cells #[.bool true, .int .i64 a0_1, .slice (some ad461) l0_2.length c0_2] 93 (0, 0)) (by (with_reducible repeat (first | refine ac_ ?_ _ | refine ae_ ?_ | refine ad_ ?_ _)); exact BK459.out) hb)
        have n2_ := ab_ (blk_below (g := gb460) (o := .cells #[.bool false, .int .i64 0, .slice none 0 0] 93 (0, 0)) (by (with_reducible repeat (first | refine ac_ ?_ _ | refine ae_ ?_ | refine ad_ ?_ _)); exact BK460.out) hb)
        have n3_ := ab_ (au_ (by repeat (first | (with_reducible first | exact HB.out | apply ai_ | apply ag_ | apply ah_ | refine af_ ?_ GE459.out | refine af_ ?_ GE460.out) | exact HB.out)) hb)
        clear BK459
        clear BK460
        clear HB
        clear HO466
        clear HO472
        have HO475 := n0_
        have BK459 := n1_
        have BK460 := n2_
        have HB := n3_
        clear n0_ n1_ n2_ n3_
        clear hb ho18
        obtain ⟨Ao19, co19, eo19⟩ := Kd.N_slice HO475.out
        (first | subst eo19 | (injection eo19 with f1_ f2_ f3_; have f4_ := f1_.symm; have f5_ := f3_.symm; clear f1_ f2_ f3_; subst f4_; subst f5_))
        refine hK.out _ _ ⟨(an_ BK459.out 0).trans rfl, (an_ BK459.out 1).trans rfl, (an_ BK459.out 2).trans rfl, ((HB.out.cell (aa_ w _ hw461_0)).trans hw461_0), ((HB.out.cell (aa_ w _ hw461_1)).trans hw461_1), ((HB.out.cell (aa_ w _ hw461_2)).trans hw461_2), ((HB.out.cell (aa_ w _ hw467_0)).trans hw467_0), ((HB.out.cell (aa_ w _ hw467_1)).trans hw467_1), ((HB.out.cell (aa_ w _ hw467_2)).trans hw467_2)⟩ (fun hHeld => ?_)
        clear hK K
        refine norm_ (a' := ?_) ?_ ?_
        rotate_left
        · show Act.put _ (some 28) _ = _
          simp only [Act.put, List.setIfInBounds_toArray, List.set_cons_zero, List.set_cons_succ, i64_w, i32_w]
          rfl
        refine pure_ (i := 15) (N := some 29) (v := ?_) (a' := ?_) #[true, true, true, true, true, true, true, true, true, true, true, true, true, true, true, true, false] rfl rfl (any_of HT_.out (by kernel_rfl)) (fun _ _ _ h => h) (Or.inl ⟨by rfl, ?_⟩) ?_ ?_
        rotate_left
        · intro w'
          go_simp
          with_reducible rfl
        rotate_left
        · simp only [Act.put, List.setIfInBounds_toArray, List.set_cons_zero, List.set_cons_succ, i64_w, i32_w]
          rfl
        refine one_ (i := 16) (N := none) #[true, true, true, true, true, true, true, true, true, true, true, true, true, true, true, true, true] rfl rfl (one_of HT_.out (by kernel_rfl)) (by decide) (fun K hK => ?_)
        have hs20 : w17.cell? ⟨gb460, 0, none⟩ = some (.bool false) := (an_ BK460.out 0).trans rfl
        have hfs20 := am_ BK460.out 0
        have hns20_0 := NB459_460.out
        have hms20_0 := NB460_459.out
        have hs21 : w17.cell? ⟨gb460, 1, none⟩ = some (.int .i64 0) := (an_ BK460.out 1).trans rfl
        have hfs21 := am_ BK460.out 1
        have hns21_0 := NB459_460.out
        have hms21_0 := NB460_459.out
        have hs22 : w17.cell? ⟨gb460, 2, none⟩ = some (.slice none 0 0) := (an_ BK460.out 2).trans rfl
        have hfs22 := am_ BK460.out 2
        have hns22_0 := NB459_460.out
        have hms22_0 := NB460_459.out
        refine skip_ (w1 := ?_) (by rfl) rfl ?_ ?_
        rotate_left
        · go_simp
          rfl
        refine hK.out _ _ ⟨((cw_ (p := ⟨gb460, _, none⟩) NB459_460.out _).trans (((cw_ (p := ⟨gb460, _, none⟩) NB459_460.out _).trans (((cw_ (p := ⟨gb460, _, none⟩) NB459_460.out _).trans (hHeld.1)))))), ((cw_ (p := ⟨gb460, _, none⟩) NB459_460.out _).trans (((cw_ (p := ⟨gb460, _, none⟩) NB459_460.out _).trans (((cw_ (p := ⟨gb460, _, none⟩) NB459_460.out _).trans (hHeld.2.1)))))), ((cw_ (p := ⟨gb460, _, none⟩) NB459_460.out _).trans (((cw_ (p := ⟨gb460, _, none⟩) NB459_460.out _).trans (((cw_ (p := ⟨gb460, _, none⟩) NB459_460.out _).trans (hHeld.2.2.1)))))), ((cw_ (p := ⟨gb460, _, none⟩) (by first | exact ak_ (aj_ (by have := aa_ _ _ hw461_0; first | rwa [al_] at this | exact this) GW460.out) | (rw [al_]; exact ak_ (aj_ (by have := aa_ _ _ hw461_0; first | rwa [al_] at this | exact this) GW460.out)) | (show (Addr.add _ _).block ≠ _; rw [al_]; exact ak_ (aj_ (by have := aa_ _ _ hw461_0; first | rwa [al_] at this | exact this) GW460.out)) | (dsimp only; exact ak_ (aj_ (by have := aa_ _ _ hw461_0; first | rwa [al_] at this | exact this) GW460.out))) _).trans (((cw_ (p := ⟨gb460, _, none⟩) (by first | exact ak_ (aj_ (by have := aa_ _ _ hw461_0; first | rwa [al_] at this | exact this) GW460.out) | (rw [al_]; exact ak_ (aj_ (by have := aa_ _ _ hw461_0; first | rwa [al_] at this | exact this) GW460.out)) | (show (Addr.add _ _).block ≠ _; rw [al_]; exact ak_ (aj_ (by have := aa_ _ _ hw461_0; first | rwa [al_] at this | exact this) GW460.out)) | (dsimp only; exact ak_ (aj_ (by have := aa_ _ _ hw461_0; first | rwa [al_] at this | exact this) GW460.out))) _).trans (((cw_ (p := ⟨gb460, _, none⟩) (by first | exact ak_ (aj_ (by have := aa_ _ _ hw461_0; first | rwa [al_] at this | exact this) GW460.out) | (rw [al_]; exact ak_ (aj_ (by have := aa_ _ _ hw461_0; first | rwa [al_] at this | exact this) GW460.out)) | (show (Addr.add _ _).block ≠ _; rw [al_]; exact ak_ (aj_ (by have := aa_ _ _ hw461_0; first | rwa [al_] at this | exact this) GW460.out)) | (dsimp only; exact ak_ (aj_ (by have := aa_ _ _ hw461_0; first | rwa [al_] at this | exact this) GW460.out))) _).trans (hHeld.2.2.2.1)))))), ((cw_ (p := ⟨gb460, _, none⟩) (by first | exact ak_ (aj_ (by have := aa_ _ _ hw461_1; first | rwa [al_] at this | exact this) GW460.out) | (rw [al_]; exact ak_ (aj_ (by have := aa_ _ _ hw461_1; first | rwa [al_] at this | exact this) GW460.out)) | (show (Addr.add _ _).block ≠ _; rw [al_]; exact ak_ (aj_ (by have := aa_ _ _ hw461_1; first | rwa [al_] at this | exact this) GW460.out)) | (dsimp only; exact ak_ (aj_ (by have := aa_ _ _ hw461_1; first | rwa [al_] at this | exact this) GW460.out))) _).trans (((cw_ (p := ⟨gb460, _, none⟩) (by first | exact ak_ (aj_ (by have := aa_ _ _ hw461_1; first | rwa [al_] at this | exact this) GW460.out) | (rw [al_]; exact ak_ (aj_ (by have := aa_ _ _ hw461_1; first | rwa [al_] at this | exact this) GW460.out)) | (show (Addr.add _ _).block ≠ _; rw [al_]; exact ak_ (aj_ (by have := aa_ _ _ hw461_1; first | rwa [al_] at this | exact this) GW460.out)) | (dsimp only; exact ak_ (aj_ (by have := aa_ _ _ hw461_1; first | rwa [al_] at this | exact this) GW460.out))) _).trans (((cw_ (p := ⟨gb460, _, none⟩) (by first | exact ak_ (aj_ (by have := aa_ _ _ hw461_1; first | rwa [al_] at this | exact this) GW460.out) | (rw [al_]; exact ak_ (aj_ (by have := aa_ _ _ hw461_1; first | rwa [al_] at this | exact this) GW460.out)) | (show (Addr.add _ _).block ≠ _; rw [al_]; exact ak_ (aj_ (by have := aa_ _ _ hw461_1; first | rwa [al_] at this | exact this) GW460.out)) | (dsimp only; exact ak_ (aj_ (by have := aa_ _ _ hw461_1; first | rwa [al_] at this | exact this) GW460.out))) _).trans (hHeld.2.2.2.2.1)))))), ((cw_ (p := ⟨gb460, _, none⟩) (by first | exact ak_ (aj_ (by have := aa_ _ _ hw461_2; first | rwa [al_] at this | exact this) GW460.out) | (rw [al_]; exact ak_ (aj_ (by have := aa_ _ _ hw461_2; first | rwa [al_] at this | exact this) GW460.out)) | (show (Addr.add _ _).block ≠ _; rw [al_]; exact ak_ (aj_ (by have := aa_ _ _ hw461_2; first | rwa [al_] at this | exact this) GW460.out)) | (dsimp only; exact ak_ (aj_ (by have := aa_ _ _ hw461_2; first | rwa [al_] at this | exact this) GW460.out))) _).trans (((cw_ (p := ⟨gb460, _, none⟩) (by first | exact ak_ (aj_ (by have := aa_ _ _ hw461_2; first | rwa [al_] at this | exact this) GW460.out) | (rw [al_]; exact ak_ (aj_ (by have := aa_ _ _ hw461_2; first | rwa [al_] at this | exact this) GW460.out)) | (show (Addr.add _ _).block ≠ _; rw [al_]; exact ak_ (aj_ (by have := aa_ _ _ hw461_2; first | rwa [al_] at this | exact this) GW460.out)) | (dsimp only; exact ak_ (aj_ (by have := aa_ _ _ hw461_2; first | rwa [al_] at this | exact this) GW460.out))) _).trans (((cw_ (p := ⟨gb460, _, none⟩) (by first | exact ak_ (aj_ (by have := aa_ _ _ hw461_2; first | rwa [al_] at this | exact this) GW460.out) | (rw [al_]; exact ak_ (aj_ (by have := aa_ _ _ hw461_2; first | rwa [al_] at this | exact this) GW460.out)) | (show (Addr.add _ _).block ≠ _; rw [al_]; exact ak_ (aj_ (by have := aa_ _ _ hw461_2; first | rwa [al_] at this | exact this) GW460.out)) | (dsimp only; exact ak_ (aj_ (by have := aa_ _ _ hw461_2; first | rwa [al_] at this | exact this) GW460.out))) _).trans (hHeld.2.2.2.2.2.1)))))), ((cw_ (p := ⟨gb460, _, none⟩) (by first | exact ak_ (aj_ (by have := aa_ _ _ hw467_0; first | rwa [al_] at this | exact this) GW460.out) | (rw [al_]; exact ak_ (aj_ (by have := aa_ _ _ hw467_0; first | rwa [al_] at this | exact this) GW460.out)) | (show (Addr.add _ _).block ≠ _; rw [al_]; exact ak_ (aj_ (by have := aa_ _ _ hw467_0; first | rwa [al_] at this | exact this) GW460.out)) | (dsimp only; exact ak_ (aj_ (by have := aa_ _ _ hw467_0; first | rwa [al_] at this | exact this) GW460.out))) _).trans (((cw_ (p := ⟨gb460, _, none⟩) (by first | exact ak_ (aj_ (by have := aa_ _ _ hw467_0; first | rwa [al_] at this | exact this) GW460.out) | (rw [al_]; exact ak_ (aj_ (by have := aa_ _ _ hw467_0; first | rwa [al_] at this | exact this) GW460.out)) | (show (Addr.add _ _).block ≠ _; rw [al_]; exact ak_ (aj_ (by have := aa_ _ _ hw467_0; first | rwa [al_] at this | exact this) GW460.out)) | (dsimp only; exact ak_ (aj_ (by have := aa_ _ _ hw467_0; first | rwa [al_] at this | exact this) GW460.out))) _).trans (((cw_ (p := ⟨gb460, _, none⟩) (by first | exact ak_ (aj_ (by have := aa_ _ _ hw467_0; first | rwa [al_] at this | exact this) GW460.out) | (rw [al_]; exact ak_ (aj_ (by have := aa_ _ _ hw467_0; first | rwa [al_] at this | exact this) GW460.out)) | (show (Addr.add _ _).block ≠ _; rw [al_]; exact ak_ (aj_ (by have := aa_ _ _ hw467_0; first | rwa [al_] at this | exact this) GW460.out)) | (dsimp only; exact ak_ (aj_ (by have := aa_ _ _ hw467_0; first | rwa [al_] at this | exact this) GW460.out))) _).trans (hHeld.2.2.2.2.2.2.1)))))), ((cw_ (p := ⟨gb460, _, none⟩) (by first | exact ak_ (aj_ (by have := aa_ _ _ hw467_1; first | rwa [al_] at this | exact this) GW460.out) | (rw [al_]; exact ak_ (aj_ (by have := aa_ _ _ hw467_1; first | rwa [al_] at this | exact this) GW460.out)) | (show (Addr.add _ _).block ≠ _; rw [al_]; exact ak_ (aj_ (by have := aa_ _ _ hw467_1; first | rwa [al_] at this | exact this) GW460.out)) | (dsimp only; exact ak_ (aj_ (by have := aa_ _ _ hw467_1; first | rwa [al_] at this | exact this) GW460.out))) _).trans (((cw_ (p := ⟨gb460, _, none⟩) (by first | exact ak_ (aj_ (by have := aa_ _ _ hw467_1; first | rwa [al_] at this | exact this) GW460.out) | (rw [al_]; exact ak_ (aj_ (by have := aa_ _ _ hw467_1; first | rwa [al_] at this | exact this) GW460.out)) | (show (Addr.add _ _).block ≠ _; rw [al_]; exact ak_ (aj_ (by have := aa_ _ _ hw467_1; first | rwa [al_] at this | exact this) GW460.out)) | (dsimp only; exact ak_ (aj_ (by have := aa_ _ _ hw467_1; first | rwa [al_] at this | exact this) GW460.out))) _).trans (((cw_ (p := ⟨gb460, _, none⟩) (by first | exact ak_ (aj_ (by have := aa_ _ _ hw467_1; first | rwa [al_] at this | exact this) GW460.out) | (rw [al_]; exact ak_ (aj_ (by have := aa_ _ _ hw467_1; first | rwa [al_] at this | exact this) GW460.out)) | (show (Addr.add _ _).block ≠ _; rw [al_]; exact ak_ (aj_ (by have := aa_ _ _ hw467_1; first | rwa [al_] at this | exact this) GW460.out)) | (dsimp only; exact ak_ (aj_ (by have := aa_ _ _ hw467_1; first | rwa [al_] at this | exact this) GW460.out))) _).trans (hHeld.2.2.2.2.2.2.2.1)))))), ((cw_ (p := ⟨gb460, _, none⟩) (by first | exact ak_ (aj_ (by have := aa_ _ _ hw467_2; first | rwa [al_] at this | exact this) GW460.out) | (rw [al_]; exact ak_ (aj_ (by have := aa_ _ _ hw467_2; first | rwa [al_] at this | exact this) GW460.out)) | (show (Addr.add _ _).block ≠ _; rw [al_]; exact ak_ (aj_ (by have := aa_ _ _ hw467_2; first | rwa [al_] at this | exact this) GW460.out)) | (dsimp only; exact ak_ (aj_ (by have := aa_ _ _ hw467_2; first | rwa [al_] at this | exact this) GW460.out))) _).trans (((cw_ (p := ⟨gb460, _, none⟩) (by first | exact ak_ (aj_ (by have := aa_ _ _ hw467_2; first | rwa [al_] at this | exact this) GW460.out) | (rw [al_]; exact ak_ (aj_ (by have := aa_ _ _ hw467_2; first | rwa [al_] at this | exact this) GW460.out)) | (show (Addr.add _ _).block ≠ _; rw [al_]; exact ak_ (aj_ (by have := aa_ _ _ hw467_2; first | rwa [al_] at this | exact this) GW460.out)) | (dsimp only; exact ak_ (aj_ (by have := aa_ _ _ hw467_2; first | rwa [al_] at this | exact this) GW460.out))) _).trans (((cw_ (p := ⟨gb460, _, none⟩) (by first | exact ak_ (aj_ (by have := aa_ _ _ hw467_2; first | rwa [al_] at this | exact this) GW460.out) | (rw [al_]; exact ak_ (aj_ (by have := aa_ _ _ hw467_2; first | rwa [al_] at this | exact this) GW460.out)) | (show (Addr.add _ _).block ≠ _; rw [al_]; exact ak_ (aj_ (by have := aa_ _ _ hw467_2; first | rwa [al_] at this | exact this) GW460.out)) | (dsimp only; exact ak_ (aj_ (by have := aa_ _ _ hw467_2; first | rwa [al_] at this | exact this) GW460.out))) _).trans (hHeld.2.2.2.2.2.2.2.2))))))⟩ (fun hHeld => ?_)
        clear hK K
        refine done_ (done_of HT_.out (by kernel_rfl)) ?_
        try go_wp2
        refine bodyPost_ret (results_cell_row rfl _ _ gb460 93 #[.bool true, .int .i64 a0_1, .slice Ao19 y473.length co19] (0, 0) _ rfl (by (with_reducible repeat (first | refine ac_ ?_ _ | refine ae_ ?_ | refine ad_ ?_ _)); refine blk_put (cs := #[.bool true, .int .i64 a0_1, .slice none 0 0]) ?_ 2 _ rfl; (with_reducible repeat (first | refine ac_ ?_ _ | refine ae_ ?_ | refine ad_ ?_ _)); refine blk_put (cs := #[.bool true, .int .i64 0, .slice none 0 0]) ?_ 1 _ rfl; (with_reducible repeat (first | refine ac_ ?_ _ | refine ae_ ?_ | refine ad_ ?_ _)); refine blk_put (cs := #[.bool false, .int .i64 0, .slice none 0 0]) ?_ 0 _ rfl; (with_reducible repeat (first | refine ac_ ?_ _ | refine ae_ ?_ | refine ad_ ?_ _)); exact BK460.out) Try.underlying93 rfl (by kernel_rfl)) rfl ?_
        exact ⟨_, by first | rfl | (simp [errW_none, errW_some] <;> rfl) | (simp [*, errW_none, errW_some] <;> rfl), by (with_reducible repeat (first | apply Kd.N_alloc | apply Kd.N_drewN | apply Kd.N_drew)); exact Kd.N_mono (Kd.N_far (p := ⟨gb460, 2, none⟩) (Kd.N_far (p := ⟨gb460, 1, none⟩) (Kd.N_far (p := ⟨gb460, 0, none⟩) (Kd.N_mono HO475.out (fun k_ hk => (⟨hk, hk.2.2⟩ : _ ∧ k_ ≠ gb460))) (fun _ hk => hk.2) (.bool true)) (fun _ hk => hk.2) (.int .i64 a0_1)) (fun _ hk => hk.2) (.slice Ao19 y473.length co19)) (fun _ hk => hk.1.1), by repeat (first | (with_reducible first | exact HB.out | apply ai_ | apply ag_ | apply ah_ | refine af_ ?_ GE459.out | refine af_ ?_ GE460.out) | exact HB.out)⟩
      · rw [if_neg c6] at H
        exact absurd H (by simp)
    · rw [if_neg c4] at H
      exact absurd H (by simp)
  · replace c3 := Bool.eq_false_iff.mpr c3
    subst c3
    have H1 : (some (false, Int.tmod (wrap64 (a0_1 + a1)) 100, ([] : List (S93)))) = some (r1, r2, r3) := by rw [if_neg (show ¬ (false = true) by decide)] at H; exact H
    clear H
    have H := H1
    clear H1
    simp only [Option.some.injEq, Prod.mk.injEq] at H
    obtain ⟨rfl, rfl, rfl⟩ := H
    go_enter Try.func72, Try.ntmps72
    go_wp2_with (first | ((with_reducible refine gate_dst (N := 2) rfl ?_); refine box_event ?hg (N := 2) ?hd (cs := #[.bool false, .int .i64 a0_1, .slice A0_2 l0_2.length c0_2]) (t := 93) ?hr ?_; (case hd => rfl); (case hg => rfl); (case hr => first | (go_simp; done) | (go_simp; rfl)); intro gb459 hg w23 hbox hb; have n0_ := ab_ (au_ (by repeat (first | (with_reducible first | exact HB.out | apply ai_ | apply ag_ | apply ah_) | exact HB.out)) hb); have n1_ := ab_ (hbox); have n2_ := ab_ ((by rw [hg]; exact (below_size (by repeat (first | (with_reducible first | exact HB.out | apply ai_ | apply ag_ | apply ah_) | exact HB.out))) : w.heap.size ≤ gb459)); have n3_ := ab_ ((by rw [hg]; exact (below_size (by repeat (first | (with_reducible first | exact HB.out | apply ai_ | apply ag_ | apply ah_) | exact HB.out))) : w.heap.size ≤ gb459)); clear HB; have HB := n0_; have BK459 := n1_; have GW459 := n2_; have GE459 := n3_; clear n0_ n1_ n2_ n3_; clear hb hbox hg) | ((with_reducible refine gate_dst (N := 4) rfl ?_); refine box_event ?hg (N := 4) ?hd (cs := #[.bool false, .int .i64 0, .slice none 0 0]) (t := 93) ?hr ?_; (case hd => rfl); (case hg => rfl); (case hr => first | (go_simp; done) | (go_simp; rfl)); intro gb460 hg w24 hbox hb; have n0_ := ab_ (blk_below (g := gb459) (o := .cells #[.bool false, .int .i64 a0_1, .slice A0_2 l0_2.length c0_2] 93 (0, 0)) (by (with_reducible repeat (first | refine ac_ ?_ _ | refine ae_ ?_ | refine ad_ ?_ _)); exact BK459.out) hb); have n1_ := ab_ (au_ (by repeat (first | (with_reducible first | exact HB.out | apply ai_ | apply ag_ | apply ah_ | refine af_ ?_ GE459.out) | exact HB.out)) hb); have n2_ := ab_ (hbox); have n3_ := ab_ ((by rw [hg]; exact (below_size (by repeat (first | (with_reducible first | exact HB.out | apply ai_ | apply ag_ | apply ah_ | refine af_ ?_ GE459.out) | exact HB.out))) : w.heap.size ≤ gb460)); have n4_ := ab_ ((by rw [hg]; exact (below_size (by repeat (first | (with_reducible first | exact HB.out | apply ai_ | apply ag_ | apply ah_ | refine af_ ?_ GE459.out) | exact HB.out))) : w.heap.size ≤ gb460)); have n5_ := ab_ ((by rw [hg]; exact ak_ (blk_lt (g := gb459) (o := .cells #[.bool false, .int .i64 a0_1, .slice A0_2 l0_2.length c0_2] 93 (0, 0)) (by (with_reducible repeat (first | refine ac_ ?_ _ | refine ae_ ?_ | refine ad_ ?_ _)); exact BK459.out)) : gb459 ≠ gb460)); have n6_ := ab_ ((by rw [hg]; exact Nat.ne_of_gt (blk_lt (g := gb459) (o := .cells #[.bool false, .int .i64 a0_1, .slice A0_2 l0_2.length c0_2] 93 (0, 0)) (by (with_reducible repeat (first | refine ac_ ?_ _ | refine ae_ ?_ | refine ad_ ?_ _)); exact BK459.out)) : gb460 ≠ gb459)); clear BK459; clear HB; have BK459 := n0_; have HB := n1_; have BK460 := n2_; have GW460 := n3_; have GE460 := n4_; have NB459_460 := n5_; have NB460_459 := n6_; clear n0_ n1_ n2_ n3_ n4_ n5_ n6_; clear hb hbox hg; have hnb25 := NB459_460.out; have hnc25 := NB460_459.out; have hcz26_0 : w24.cell? ⟨gb459, 0, none⟩ = some (.bool false) := (an_ BK459.out 0).trans rfl; have hcz26_1 : w24.cell? ⟨gb459, 1, none⟩ = some (.int .i64 a0_1) := (an_ BK459.out 1).trans rfl; have hcz26_2 : w24.cell? ⟨gb459, 2, none⟩ = some (.slice A0_2 l0_2.length c0_2) := (an_ BK459.out 2).trans rfl; have hfz26_0 := am_ BK459.out 0; have hfz26_1 := am_ BK459.out 1; have hfz26_2 := am_ BK459.out 2; have hcz27_0 : w24.cell? ⟨gb460, 0, none⟩ = some (.bool false) := (an_ BK460.out 0).trans rfl; have hcz27_1 : w24.cell? ⟨gb460, 1, none⟩ = some (.int .i64 0) := (an_ BK460.out 1).trans rfl; have hcz27_2 : w24.cell? ⟨gb460, 2, none⟩ = some (.slice none 0 0) := (an_ BK460.out 2).trans rfl; have hfz27_0 := am_ BK460.out 0; have hfz27_1 := am_ BK460.out 1; have hfz27_2 := am_ BK460.out 2))
    refine bodyPost_ret (results_cell_row rfl _ _ gb460 93 #[.bool false, .int .i64 (Int.tmod (wrap64 (a0_1 + a1)) 100), .slice none 0 0] (0, 0) _ rfl (by (with_reducible repeat (first | refine ac_ ?_ _ | refine ae_ ?_ | refine ad_ ?_ _)); refine blk_put (cs := #[.bool false, .int .i64 (Int.tmod (wrap64 (a0_1 + a1)) 100), .slice none 0 0]) ?_ 2 _ rfl; (with_reducible repeat (first | refine ac_ ?_ _ | refine ae_ ?_ | refine ad_ ?_ _)); refine blk_put (cs := #[.bool false, .int .i64 0, .slice none 0 0]) ?_ 1 _ rfl; (with_reducible repeat (first | refine ac_ ?_ _ | refine ae_ ?_ | refine ad_ ?_ _)); refine blk_put (cs := #[.bool false, .int .i64 0, .slice none 0 0]) ?_ 0 _ rfl; (with_reducible repeat (first | refine ac_ ?_ _ | refine ae_ ?_ | refine ad_ ?_ _)); exact BK460.out) Try.underlying93 rfl (by kernel_rfl)) rfl ?_
    exact ⟨_, by first | rfl | (simp [errW_none, errW_some] <;> rfl) | (simp [*, errW_none, errW_some] <;> rfl), by first | exact Kd.R_nil _ _ _ _ _ | exact Kd.N_nil _ _ _ _ _ | exact Kd.V_nil _ _ _ _ _ | exact Kd.Q_nil _ _ _ _ _ | exact Kd.S_nil _ _ _ _ _, by repeat (first | (with_reducible first | exact HB.out | apply ai_ | apply ag_ | apply ah_ | refine af_ ?_ GE459.out | refine af_ ?_ GE460.out) | exact HB.out)⟩
end Go.Proofs.Ytjnaokdncemggaa.PAll

end

section
namespace Go.Proofs.Ytjnaokdncemggaa.PAll
open Go.RowKit Go.Proofs.YtjnaokdncemggaaW.PrintWords Go.Proofs.YtjnaokdncemggaaW.PrintLast Go.Proofs.YtjnaokdncemggaaW.PrintMore
attribute [local go_sem] max2_int min2_int max_two min_two max_three min_three max_four min_four   -- for this text's walks alone
set_option linter.unusedVariables false
set_option linter.unusedSimpArgs false
def laws_heldCompS.l0 : Nat → List (S83) → Int → Int → Option (Int)
  | 0, _, _, _ => none
  | k + 1, x0, x1, x5 => if x5 < (x0.length : Int) then (if 0 ≤ x5 then (if ((rd_T83 x0 x5).f0) = x1 then (if ((rd_T83 x0 x5).f1) = (wrap64 (x1 + 1)) then (laws_heldCompS.l0 k x0 (wrap64 ((wrap64 (x1 + 1)) + 1)) (wrap64 (x5 + 1))) else (some (-1))) else (some (-1))) else (none)) else (some x1)
def laws_heldCompS.f (k : Nat) (l0 : List (S83)) (a1 : Int) : Option (Int) := laws_heldCompS.l0 k l0 a1 0
theorem laws_heldCompS.mono_l : ∀ k, (∀ y0 y1 y2, LeO (laws_heldCompS.l0 k y0 y1 y2) (laws_heldCompS.l0 (k + 1) y0 y1 y2))
  | 0 => fun _ _ _ r h => by simp [laws_heldCompS.l0] at h
  | k + 1 => by
    have ih0 := laws_heldCompS.mono_l k
    · intro y0 y1 y2
      unfold laws_heldCompS.l0
      repeat' first
      | (with_reducible exact ih0 _ _ _)
      | (with_reducible exact LeO.refl _)
      | (with_reducible exact LeO.none _)
      | (with_reducible refine LeO.ite ?_ ?_)
      | (with_reducible refine LeO.bind ?_ (fun _ => ?_))
      | exact ih0 _ _ _
      | exact LeO.none _
      | refine LeO.ite ?_ ?_
      | refine LeO.bind ?_ (fun _ => ?_)
theorem laws_heldCompS.mono : ∀ a0 a1 k, LeO (laws_heldCompS.f k a0 a1) (laws_heldCompS.f (k + 1) a0 a1) := by
  intro a0 a1 k
  have ih0 := laws_heldCompS.mono_l k
  unfold laws_heldCompS.f
  repeat' first
      | (with_reducible exact ih0 _ _ _)
      | (with_reducible exact LeO.refl _)
      | (with_reducible exact LeO.none _)
      | (with_reducible refine LeO.ite ?_ ?_)
      | (with_reducible refine LeO.bind ?_ (fun _ => ?_))
      | exact ih0 _ _ _
      | exact LeO.none _
      | refine LeO.ite ?_ ?_
      | refine LeO.bind ?_ (fun _ => ?_)
set_option maxHeartbeats 8000000 in
set_option maxRecDepth 100000 in
theorem laws_heldCompS.calls (k : Nat) (A0 : Option Addr) (c0 : Nat) (l0 : List (S83)) (a1 : Int) (r : Int) (w : World) (hr0 : Kd.C k83 w A0 l0.length l0) (hc0 : l0.length ≤ c0) (h : laws_heldCompS.f k l0 a1 = some r) :
    Calls Try.prog 39 #[.slice A0 l0.length c0, .int .i64 a1] w fun e w' => e = .returned (.int .i64 r) ∧ Drawn0 w w' := by
  have HR0 := ab_ hr0
  have HC0 := ab_ hc0
  clear hr0 hc0
  have H : (laws_heldCompS.l0 k l0 a1 0) = some r := h
  clear h
  have H' := ab_ H
  clear H
  go_enter Try.func39, Try.ntmps39
  go_wp2
  go_loopg [1, 5] k (fun kq v1 v5 w' => ∃ (x1_1 : Int) (x5_1 : Int), v1 = .int .i64 x1_1 ∧ v5 = .int .i64 x5_1 ∧ Aside0 (laws_heldCompS.l0 kq l0 x1_1 x5_1 = some r) ∧ Aside0 (kq ≤ k) ∧ Drawn0 w w')
  case atStart => exact ⟨(a1), (0), (by first | rfl | (simp; done) | (simp [*]; done)), (by first | rfl | (simp; done) | (simp [*]; done)), H', ⟨Nat.le_refl _⟩, by repeat (first | exact Drawn0.refl _ | apply Drawn0.step)⟩
  case round =>
    clear H'
    try clear p2
    obtain ⟨x1_1, x5_1, rfl, rfl, HA, HK1, ⟨m1, rfl⟩⟩ := hrel
    cases gk with
    | zero => exact absurd HA.out (by simp [laws_heldCompS.l0])
    | succ k1 =>
      have H := HA.out
      clear HA
      simp only [laws_heldCompS.l0] at H
      by_cases c3 : x5_1 < (l0.length : Int)
      · rw [if_pos c3] at H
        have c3b0 : decide (x5_1 < (l0.length : Int)) = true := at_ c3
        clear c3
        by_cases c4 : 0 ≤ x5_1
        · rw [if_pos c4] at H
          have c4b0 : decide (0 ≤ x5_1) = true := at_ c4
          clear c4
          by_cases c5 : ((rd_T83 l0 x5_1).f0) = x1_1
          · rw [if_pos c5] at H
            have c5b0 : (((rd_T83 l0 x5_1).f0) == x1_1) = true := beq_iff_eq.mpr c5
            have c5b1 : (((rd_T83 l0 x5_1).f0) != x1_1) = false := bne_eq_false_iff_eq.mpr c5
            clear c5
            by_cases c6 : ((rd_T83 l0 x5_1).f1) = (wrap64 (x1_1 + 1))
            · rw [if_pos c6] at H
              have c6b0 : (((rd_T83 l0 x5_1).f1) == (wrap64 (x1_1 + 1))) = true := beq_iff_eq.mpr c6
              have c6b1 : (((rd_T83 l0 x5_1).f1) != (wrap64 (x1_1 + 1))) = false := bne_eq_false_iff_eq.mpr c6
              clear c6
              have H' := ab_ H
              clear H
              have p508 : 0 ≤ (x5_1 : Int) := of_decide_eq_true (by first | (with_reducible assumption) | assumption)
              have q508 : x5_1 < (l0.length : Int) := of_decide_eq_true (by first | (with_reducible assumption) | assumption)
              obtain ⟨ad508, e508, hx508_0, hx508_1⟩ := at_T83 HR0.out x5_1 p508 q508
              cases e508
              replace p508 := eq_true p508
              replace q508 := eq_true q508
              have p509 : 0 ≤ (x5_1 : Int) := of_decide_eq_true (by first | (with_reducible assumption) | assumption)
              have q509 : x5_1 < (l0.length : Int) := of_decide_eq_true (by first | (with_reducible assumption) | assumption)
              obtain ⟨ad509, e509, hx509_0, hx509_1⟩ := at_T83 HR0.out x5_1 p509 q509
              obtain rfl : ad508 = ad509 := (by injection e509)
              replace p509 := eq_true p509
              replace q509 := eq_true q509
              go_wp2
              go_roundg k1
              case measure => have := HK1.out; omega
              case rel => exact ⟨(wrap64 ((wrap64 (x1_1 + 1)) + 1)), (wrap64 (x5_1 + 1)), (by first | rfl | (simp; done) | (simp [*]; done)), (by first | rfl | (simp; done) | (simp [*]; done)), H', ⟨by have := HK1.out; omega⟩, by repeat (first | exact Drawn0.refl _ | apply Drawn0.step)⟩
            · rw [if_neg c6] at H
              have c6b0 : (((rd_T83 l0 x5_1).f1) == (wrap64 (x1_1 + 1))) = false := beq_eq_false_iff_ne.mpr c6
              have c6b1 : (((rd_T83 l0 x5_1).f1) != (wrap64 (x1_1 + 1))) = true := bne_iff_ne.mpr c6
              obtain rfl := Option.some.inj H
              have p508 : 0 ≤ (x5_1 : Int) := of_decide_eq_true (by first | (with_reducible assumption) | assumption)
              have q508 : x5_1 < (l0.length : Int) := of_decide_eq_true (by first | (with_reducible assumption) | assumption)
              obtain ⟨ad508, e508, hx508_0, hx508_1⟩ := at_T83 HR0.out x5_1 p508 q508
              cases e508
              replace p508 := eq_true p508
              replace q508 := eq_true q508
              have p509 : 0 ≤ (x5_1 : Int) := of_decide_eq_true (by first | (with_reducible assumption) | assumption)
              have q509 : x5_1 < (l0.length : Int) := of_decide_eq_true (by first | (with_reducible assumption) | assumption)
              obtain ⟨ad509, e509, hx509_0, hx509_1⟩ := at_T83 HR0.out x5_1 p509 q509
              obtain rfl : ad508 = ad509 := (by injection e509)
              replace p509 := eq_true p509
              replace q509 := eq_true q509
              go_wp2
              go_ret
              exact ⟨by first | rfl | (simp; done) | (simp [*]; done), by repeat (first | exact Drawn0.refl _ | apply Drawn0.step)⟩
          · rw [if_neg c5] at H
            have c5b0 : (((rd_T83 l0 x5_1).f0) == x1_1) = false := beq_eq_false_iff_ne.mpr c5
            have c5b1 : (((rd_T83 l0 x5_1).f0) != x1_1) = true := bne_iff_ne.mpr c5
            obtain rfl := Option.some.inj H
            have p508 : 0 ≤ (x5_1 : Int) := of_decide_eq_true (by first | (with_reducible assumption) | assumption)
            have q508 : x5_1 < (l0.length : Int) := of_decide_eq_true (by first | (with_reducible assumption) | assumption)
            obtain ⟨ad508, e508, hx508_0, hx508_1⟩ := at_T83 HR0.out x5_1 p508 q508
            cases e508
            replace p508 := eq_true p508
            replace q508 := eq_true q508
            go_wp2
            go_ret
            exact ⟨by first | rfl | (simp; done) | (simp [*]; done), by repeat (first | exact Drawn0.refl _ | apply Drawn0.step)⟩
        · rw [if_neg c4] at H
          exact absurd H (by simp)
      · rw [if_neg c3] at H
        have c3b0 : decide (x5_1 < (l0.length : Int)) = false := decide_eq_false c3
        clear c3
        obtain rfl := Option.some.inj H
        go_wp2
        go_ret
        exact ⟨by first | rfl | (simp; done) | (simp [*]; done), by repeat (first | exact Drawn0.refl _ | apply Drawn0.step)⟩
end Go.Proofs.Ytjnaokdncemggaa.PAll

end

section
namespace Go.Proofs.Ytjnaokdncemggaa.PAll
open Go.RowKit Go.Proofs.YtjnaokdncemggaaW.PrintWords Go.Proofs.YtjnaokdncemggaaW.PrintLast Go.Proofs.YtjnaokdncemggaaW.PrintMore
attribute [local go_sem] max2_int min2_int max_two min_two max_three min_three max_four min_four   -- for this text's walks alone
set_option linter.unusedVariables false
set_option linter.unusedSimpArgs false
def laws_szCompS.f (l0 : List (S97)) (a1 : Int) : Option (Int) := if (wrap64 (a1 - (l0.length : Int))) < 0 then (some (-1)) else (some (wrap64 (a1 - (l0.length : Int))))
set_option maxHeartbeats 8000000 in
set_option maxRecDepth 100000 in
theorem laws_szCompS.calls (A0 : Option Addr) (c0 : Nat) (l0 : List (S97)) (a1 : Int) (r : Int) (w : World) (hr0 : Kd.C k97 w A0 l0.length l0) (hc0 : l0.length ≤ c0) (h : laws_szCompS.f l0 a1 = some r) :
    Calls Try.prog 18 #[.slice A0 l0.length c0, .int .i64 a1] w fun e w' => e = .returned (.int .i64 r) ∧ Drawn0 w w' := by
  have HR0 := ab_ hr0
  have HC0 := ab_ hc0
  clear hr0 hc0
  have H : (if (wrap64 (a1 - (l0.length : Int))) < 0 then (some (-1)) else (some (wrap64 (a1 - (l0.length : Int))))) = some r := h
  clear h
  by_cases c3 : (wrap64 (a1 - (l0.length : Int))) < 0
  · rw [if_pos c3] at H
    have c3b0 : decide ((wrap64 (a1 - (l0.length : Int))) < 0) = true := at_ c3
    clear c3
    obtain rfl := Option.some.inj H
    go_enter Try.func18, Try.ntmps18
    go_wp2
    go_ret
    exact ⟨by first | rfl | (simp; done) | (simp [*]; done), by repeat (first | exact Drawn0.refl _ | apply Drawn0.step)⟩
  · rw [if_neg c3] at H
    have c3b0 : decide ((wrap64 (a1 - (l0.length : Int))) < 0) = false := decide_eq_false c3
    clear c3
    obtain rfl := Option.some.inj H
    go_enter Try.func18, Try.ntmps18
    go_wp2
    go_ret
    exact ⟨by first | rfl | (simp; done) | (simp [*]; done), by repeat (first | exact Drawn0.refl _ | apply Drawn0.step)⟩
end Go.Proofs.Ytjnaokdncemggaa.PAll

end

section
namespace Go.Proofs.Ytjnaokdncemggaa.PAll
open Go.RowKit Go.Proofs.YtjnaokdncemggaaW.PrintWords Go.Proofs.YtjnaokdncemggaaW.PrintLast Go.Proofs.YtjnaokdncemggaaW.PrintMore
attribute [local go_sem] max2_int min2_int max_two min_two max_three min_three max_four min_four   -- for this text's walks alone
set_option linter.unusedVariables false
set_option linter.unusedSimpArgs false
def laws_szCompSS.l0 : Nat → List (List (S97)) → Int → Int → Option (Int)
  | 0, _, _, _ => none
  | k + 1, x0, x1, x5 => if x5 < (x0.length : Int) then (if 0 ≤ x5 then ((laws_szCompS.f (rd_L7 x0 x5) x1).bind fun t546 => (if t546 < 0 then (some (-1)) else (laws_szCompSS.l0 k x0 t546 (wrap64 (x5 + 1))))) else (none)) else (some x1)
def laws_szCompSS.f (k : Nat) (l0 : List (List (S97))) (a1 : Int) : Option (Int) := if (wrap64 (a1 - (l0.length : Int))) < 0 then (some (-1)) else (laws_szCompSS.l0 k l0 (wrap64 (a1 - (l0.length : Int))) 0)
theorem laws_szCompSS.mono_l : ∀ k, (∀ y0 y1 y2, LeO (laws_szCompSS.l0 k y0 y1 y2) (laws_szCompSS.l0 (k + 1) y0 y1 y2))
  | 0 => fun _ _ _ r h => by simp [laws_szCompSS.l0] at h
  | k + 1 => by
    have ih0 := laws_szCompSS.mono_l k
    · intro y0 y1 y2
      unfold laws_szCompSS.l0
      repeat' first
      | (with_reducible exact ih0 _ _ _)
      | (with_reducible exact LeO.refl _)
      | (with_reducible exact LeO.none _)
      | (with_reducible refine LeO.ite ?_ ?_)
      | (with_reducible refine LeO.bind ?_ (fun _ => ?_))
      | exact ih0 _ _ _
      | exact LeO.none _
      | refine LeO.ite ?_ ?_
      | refine LeO.bind ?_ (fun _ => ?_)
theorem laws_szCompSS.mono : ∀ a0 a1 k, LeO (laws_szCompSS.f k a0 a1) (laws_szCompSS.f (k + 1) a0 a1) := by
  intro a0 a1 k
  have ih0 := laws_szCompSS.mono_l k
  unfold laws_szCompSS.f
  repeat' first
      | (with_reducible exact ih0 _ _ _)
      | (with_reducible exact LeO.refl _)
      | (with_reducible exact LeO.none _)
      | (with_reducible refine LeO.ite ?_ ?_)
      | (with_reducible refine LeO.bind ?_ (fun _ => ?_))
      | exact ih0 _ _ _
      | exact LeO.none _
      | refine LeO.ite ?_ ?_
      | refine LeO.bind ?_ (fun _ => ?_)
set_option maxHeartbeats 8000000 in
set_option maxRecDepth 100000 in
theorem laws_szCompSS.calls (k : Nat) (A0 : Option Addr) (c0 : Nat) (l0 : List (List (S97))) (a1 : Int) (r : Int) (w : World) (hr0 : Kd.C (Kd.slice 97 k97) w A0 l0.length l0) (hc0 : l0.length ≤ c0) (h : laws_szCompSS.f k l0 a1 = some r) :
    Calls Try.prog 40 #[.slice A0 l0.length c0, .int .i64 a1] w fun e w' => e = .returned (.int .i64 r) ∧ Drawn0 w w' := by
  have HR0 := ab_ hr0
  have HC0 := ab_ hc0
  clear hr0 hc0
  have H : (if (wrap64 (a1 - (l0.length : Int))) < 0 then (some (-1)) else (laws_szCompSS.l0 k l0 (wrap64 (a1 - (l0.length : Int))) 0)) = some r := h
  clear h
  by_cases c3 : (wrap64 (a1 - (l0.length : Int))) < 0
  · rw [if_pos c3] at H
    have c3b0 : decide ((wrap64 (a1 - (l0.length : Int))) < 0) = true := at_ c3
    clear c3
    obtain rfl := Option.some.inj H
    go_enter Try.func40, Try.ntmps40
    go_wp2
    go_ret
    exact ⟨by first | rfl | (simp; done) | (simp [*]; done), by repeat (first | exact Drawn0.refl _ | apply Drawn0.step)⟩
  · rw [if_neg c3] at H
    have c3b0 : decide ((wrap64 (a1 - (l0.length : Int))) < 0) = false := decide_eq_false c3
    clear c3
    have H' := ab_ H
    clear H
    go_enter Try.func40, Try.ntmps40
    go_wp2
    go_loopg [1, 5] k (fun kq v1 v5 w' => ∃ (x1_1 : Int) (x5_1 : Int), v1 = .int .i64 x1_1 ∧ v5 = .int .i64 x5_1 ∧ Aside0 (laws_szCompSS.l0 kq l0 x1_1 x5_1 = some r) ∧ Aside0 (kq ≤ k) ∧ Drawn0 w w')
    case atStart => exact ⟨(wrap64 (a1 - (l0.length : Int))), (0), (by first | rfl | (simp; done) | (simp [*]; done)), (by first | rfl | (simp; done) | (simp [*]; done)), H', ⟨Nat.le_refl _⟩, by repeat (first | exact Drawn0.refl _ | apply Drawn0.step)⟩
    case round =>
      clear H'
      try clear p2
      try clear c3
      try clear c3b0
      obtain ⟨x1_1, x5_1, rfl, rfl, HA, HK1, ⟨m1, rfl⟩⟩ := hrel
      cases gk with
      | zero => exact absurd HA.out (by simp [laws_szCompSS.l0])
      | succ k1 =>
        have H := HA.out
        clear HA
        simp only [laws_szCompSS.l0] at H
        by_cases c4 : x5_1 < (l0.length : Int)
        · rw [if_pos c4] at H
          have c4b0 : decide (x5_1 < (l0.length : Int)) = true := at_ c4
          clear c4
          by_cases c5 : 0 ≤ x5_1
          · rw [if_pos c5] at H
            have c5b0 : decide (0 ≤ x5_1) = true := at_ c5
            clear c5
            replace H := Option.bind_eq_some_iff.mp H
            obtain ⟨t546, A60, H⟩ := H
            replace H : (if t546 < 0 then (some (-1)) else (laws_szCompSS.l0 k1 l0 t546 (wrap64 (x5_1 + 1)))) = some r := H
            have A6 := ab_ A60
            clear A60
            by_cases c7 : t546 < 0
            · rw [if_pos c7] at H
              have c7b0 : decide (t546 < 0) = true := at_ c7
              clear c7
              obtain rfl := Option.some.inj H
              have p545 : 0 ≤ (x5_1 : Int) := of_decide_eq_true (by first | (with_reducible assumption) | assumption)
              have q545 : x5_1 < (l0.length : Int) := of_decide_eq_true (by first | (with_reducible assumption) | assumption)
              obtain ⟨ad545, A545_0, c545_0, e545, hx545_0, hl545_0, hi545_0⟩ := at_L7 HR0.out x5_1 p545 q545
              cases e545
              have HR545_0 := ab_ hi545_0
              have HC545_0 := ab_ hl545_0
              clear hi545_0 hl545_0
              replace p545 := eq_true p545
              replace q545 := eq_true q545
              go_wp2_with (first | ((with_reducible refine gate_callee (f := 18) rfl ?_); refine goesL_ (some 23) rfl rfl Try.func18 (by kernel_rfl) rfl #[.slice A545_0 (rd_L7 l0 x5_1).length c545_0, .int .i64 x1_1] rfl (by (try simp only [List.map_toArray, List.map_cons, List.map_nil]); first | done | rfl | (simp only [List.length_drop, List.length_take]; rfl)) ?_; (with_reducible refine (laws_szCompS.calls _ _ (rd_L7 l0 x5_1) x1_1 t546 _ ?side1 ?side2 A6.out).mono ?_); (case side1 => repeat (first | exact HR545_0.out | (with_reducible refine ar_ ?_ _) | (with_reducible refine as_ ?_ _) | (with_reducible refine Kd.C_drew ?_))); (case side2 => exact HC545_0.out); rintro e w' ⟨rfl, ⟨nd, rfl⟩⟩; refine ⟨_, rfl, ?_⟩))
              go_ret
              exact ⟨by first | rfl | (simp; done) | (simp [*]; done), by repeat (first | exact Drawn0.refl _ | apply Drawn0.step)⟩
            · rw [if_neg c7] at H
              have c7b0 : decide (t546 < 0) = false := decide_eq_false c7
              clear c7
              have H' := ab_ H
              clear H
              have p545 : 0 ≤ (x5_1 : Int) := of_decide_eq_true (by first | (with_reducible assumption) | assumption)
              have q545 : x5_1 < (l0.length : Int) := of_decide_eq_true (by first | (with_reducible assumption) | assumption)
              obtain ⟨ad545, A545_0, c545_0, e545, hx545_0, hl545_0, hi545_0⟩ := at_L7 HR0.out x5_1 p545 q545
              cases e545
              have HR545_0 := ab_ hi545_0
              have HC545_0 := ab_ hl545_0
              clear hi545_0 hl545_0
              replace p545 := eq_true p545
              replace q545 := eq_true q545
              go_wp2_with (first | ((with_reducible refine gate_callee (f := 18) rfl ?_); refine goesL_ (some 23) rfl rfl Try.func18 (by kernel_rfl) rfl #[.slice A545_0 (rd_L7 l0 x5_1).length c545_0, .int .i64 x1_1] rfl (by (try simp only [List.map_toArray, List.map_cons, List.map_nil]); first | done | rfl | (simp only [List.length_drop, List.length_take]; rfl)) ?_; (with_reducible refine (laws_szCompS.calls _ _ (rd_L7 l0 x5_1) x1_1 t546 _ ?side1 ?side2 A6.out).mono ?_); (case side1 => repeat (first | exact HR545_0.out | (with_reducible refine ar_ ?_ _) | (with_reducible refine as_ ?_ _) | (with_reducible refine Kd.C_drew ?_))); (case side2 => exact HC545_0.out); rintro e w' ⟨rfl, ⟨nd, rfl⟩⟩; refine ⟨_, rfl, ?_⟩))
              go_roundg k1
              case measure => have := HK1.out; omega
              case rel => exact ⟨(t546), (wrap64 (x5_1 + 1)), (by first | rfl | (simp; done) | (simp [*]; done)), (by first | rfl | (simp; done) | (simp [*]; done)), H', ⟨by have := HK1.out; omega⟩, by repeat (first | exact Drawn0.refl _ | apply Drawn0.step)⟩
          · rw [if_neg c5] at H
            exact absurd H (by simp)
        · rw [if_neg c4] at H
          have c4b0 : decide (x5_1 < (l0.length : Int)) = false := decide_eq_false c4
          clear c4
          obtain rfl := Option.some.inj H
          go_wp2
          go_ret
          exact ⟨by first | rfl | (simp; done) | (simp [*]; done), by repeat (first | exact Drawn0.refl _ | apply Drawn0.step)⟩
def spec_l9Tell.f (k : Nat) (a0_0 : Bool) (a0_1 : Int) (l0_2 : List (S93)) : Option ((List (S83)) × Bool) := (spec_l9Flat.f a0_0 a0_1 l0_2 ([] : List (S83))).bind fun t548 => ((spec_GoodComp.f k t548).bind fun t551 => (if t551 = true then (some (t548, true)) else (some (([] : List (S83)), false))))
theorem spec_l9Tell.mono : ∀ a0 a1 a2 k, LeO (spec_l9Tell.f k a0 a1 a2) (spec_l9Tell.f (k + 1) a0 a1 a2) := by
  intro a0 a1 a2 k
  unfold spec_l9Tell.f
  repeat' first
      | (with_reducible exact spec_GoodComp.mono _ _)
      | (with_reducible exact LeO.refl _)
      | (with_reducible exact LeO.none _)
      | (with_reducible refine LeO.ite ?_ ?_)
      | (with_reducible refine LeO.bind ?_ (fun _ => ?_))
      | exact spec_GoodComp.mono _ _
      | exact LeO.none _
      | refine LeO.ite ?_ ?_
      | refine LeO.bind ?_ (fun _ => ?_)
set_option maxHeartbeats 8000000 in
set_option maxRecDepth 100000 in
theorem spec_l9Tell.calls (k : Nat) (a0_0 : Bool) (a0_1 : Int) (A0_2 : Option Addr) (c0_2 : Nat) (l0_2 : List (S93)) (r1 : List (S83)) (r2 : Bool) (w : World) (hr0_2 : Kd.C k93 w A0_2 l0_2.length l0_2) (hc0_2 : l0_2.length ≤ c0_2) (h : spec_l9Tell.f k a0_0 a0_1 l0_2 = some (r1, r2)) :
    Calls Try.prog 77 #[.agg #[.bool a0_0, .int .i64 a0_1, .slice A0_2 l0_2.length c0_2]] w fun e w' => ∃ v0_ : Value, e = .returned (.tuple #[v0_, .bool r2]) ∧ Kd.R k83 83 w' w.heap.size (fun _ => True) v0_ r1 ∧ Below w.heap.size w w' := by
  have hu93 := Try.underlying93
  have HR0_2 := ab_ hr0_2
  have HC0_2 := ab_ hc0_2
  clear hr0_2 hc0_2
  have HB := ab_ (av_ w.heap.size w)
  have H : ((spec_l9Flat.f a0_0 a0_1 l0_2 ([] : List (S83))).bind fun t548 => ((spec_GoodComp.f k t548).bind fun t551 => (if t551 = true then (some (t548, true)) else (some (([] : List (S83)), false))))) = some (r1, r2) := h
  clear h
  replace H := Option.bind_eq_some_iff.mp H
  obtain ⟨t548, A20, H⟩ := H
  replace H : ((spec_GoodComp.f k t548).bind fun t551 => (if t551 = true then (some (t548, true)) else (some (([] : List (S83)), false)))) = some (r1, r2) := H
  have A2 := ab_ A20
  clear A20
  replace H := Option.bind_eq_some_iff.mp H
  obtain ⟨t551, A30, H⟩ := H
  replace H : (if t551 = true then (some (t548, true)) else (some (([] : List (S83)), false))) = some (r1, r2) := H
  have A3 := ab_ A30
  clear A30
  by_cases c4 : t551 = true
  · subst c4
    have H1 : (some (t548, true)) = some (r1, r2) := by rw [if_pos rfl] at H; exact H
    clear H
    have H := H1
    clear H1
    simp only [Option.some.injEq, Prod.mk.injEq] at H
    obtain ⟨rfl, rfl⟩ := H
    go_enter Try.func77, Try.ntmps77
    go_wp2_with (first | ((with_reducible refine gate_dst (N := 1) rfl ?_); refine box_event ?hg (N := 1) ?hd (cs := #[.bool a0_0, .int .i64 a0_1, .slice A0_2 l0_2.length c0_2]) (t := 93) ?hr ?_; (case hd => rfl); (case hg => rfl); (case hr => first | (go_simp; done) | (go_simp; rfl)); intro gb547 hg w5 hbox hb; have n0_ := ab_ (au_ (by repeat (first | (with_reducible first | exact HB.out | apply ai_ | apply ag_ | apply ah_) | exact HB.out)) hb); have n1_ := ab_ (hbox); have n2_ := ab_ ((by rw [hg]; exact (below_size (by repeat (first | (with_reducible first | exact HB.out | apply ai_ | apply ag_ | apply ah_) | exact HB.out))) : w.heap.size ≤ gb547)); have n3_ := ab_ ((by rw [hg]; exact (below_size (by repeat (first | (with_reducible first | exact HB.out | apply ai_ | apply ag_ | apply ah_) | exact HB.out))) : w.heap.size ≤ gb547)); clear HB; have HB := n0_; have BK547 := n1_; have GW547 := n2_; have GE547 := n3_; clear n0_ n1_ n2_ n3_; clear hb hbox hg; have hcz6_0 : w5.cell? ⟨gb547, 0, none⟩ = some (.bool a0_0) := (an_ BK547.out 0).trans rfl; have hcz6_1 : w5.cell? ⟨gb547, 1, none⟩ = some (.int .i64 a0_1) := (an_ BK547.out 1).trans rfl; have hcz6_2 : w5.cell? ⟨gb547, 2, none⟩ = some (.slice A0_2 l0_2.length c0_2) := (an_ BK547.out 2).trans rfl; have hfz6_0 := am_ BK547.out 0; have hfz6_1 := am_ BK547.out 1; have hfz6_2 := am_ BK547.out 2) | ((with_reducible refine gate_callee (f := 71) rfl ?_); refine goesL_ (some 6) rfl rfl Try.func71 (by kernel_rfl) rfl #[.agg #[.bool a0_0, .int .i64 a0_1, .slice A0_2 l0_2.length c0_2], .slice none 0 0] rfl (by (try simp only [List.map_toArray, List.map_cons, List.map_nil]); first | done | rfl | (simp only [List.length_drop, List.length_take]; rfl)) ?_; (refine (spec_l9Flat.calls a0_0 a0_1 _ _ l0_2 (fun k_ => some k_ = (.slice none 0 0 : Value).ownBlock) (.slice none 0 0) ([] : List (S83)) t548 w _ ?side1 ?side2 ?side3 ?side4 A2.out).mono ?_); (case side1 => repeat (first | (with_reducible first | exact HB.out | apply ai_ | apply ag_ | apply ah_ | refine af_ ?_ GE547.out) | exact HB.out)); (case side2 => exact Kd.C_kept_came k93_heap HR0_2.out (by repeat (first | (with_reducible first | exact HB.out | apply ai_ | apply ag_ | apply ah_ | refine af_ ?_ GE547.out) | exact HB.out)) (fun k_ hs_ => (fun e_ => by simp [Value.ownBlock] at e_) hs_)); (case side3 => exact HC0_2.out); (case side4 => exact Kd.R_nil _ _ _ _ _); rintro e w7 ⟨v549, rfl, ho0, hb, hkp⟩; refine ⟨_, rfl, ?_⟩; have n0_ := ab_ (blk_kept (by (with_reducible repeat (first | refine ac_ ?_ _ | refine ae_ ?_ | refine ad_ ?_ _)); exact BK547.out) hkp (fun hs_ => (fun e_ => by simp [Value.ownBlock] at e_) hs_)); have n1_ := ab_ (Kd.R_mono (ok' := fun k_ => True) ho0 (fun k_ hk_ => trivial)); have n2_ := ab_ (hb); clear BK547; clear HB; have BK547 := n0_; have HO550 := n1_; have HB := n2_; clear n0_ n1_ n2_; (try clear hb); (try clear hkp); (try clear ho0); obtain ⟨Ao8, co8, eo8⟩ := Kd.R_slice HO550.out; subst eo8) | ((with_reducible refine gate_callee (f := 19) rfl ?_); refine goesL_ (some 8) rfl rfl Try.func19 (by kernel_rfl) rfl #[.slice Ao8 t548.length co8] rfl (by (try simp only [List.map_toArray, List.map_cons, List.map_nil]); first | done | rfl | (simp only [List.length_drop, List.length_take]; rfl)) ?_; (with_reducible refine (spec_GoodComp.calls k _ _ t548 true _ ?side1 ?side2 A3.out).mono ?_); (case side1 => repeat (first | exact (Kd.R_reads' HO550.out).2.2 | (with_reducible refine ar_ ?_ _) | (with_reducible refine as_ ?_ _) | (with_reducible refine Kd.C_drew ?_))); (case side2 => exact (Kd.R_reads' HO550.out).2.1); rintro e w9 ⟨rfl, hb⟩; refine ⟨_, rfl, ?_⟩; have n0_ := ab_ (Kd.R_below (by (with_reducible repeat (first | apply ao_ | apply ap_ | apply aq_)); exact HO550.out) hb); have n1_ := ab_ (blk_below (g := gb547) (o := .cells #[.bool a0_0, .int .i64 a0_1, .slice A0_2 l0_2.length c0_2] 93 (0, 0)) (by (with_reducible repeat (first | refine ac_ ?_ _ | refine ae_ ?_ | refine ad_ ?_ _)); exact BK547.out) hb); have n2_ := ab_ (au_ (by repeat (first | (with_reducible first | exact HB.out | apply ai_ | apply ag_ | apply ah_ | refine af_ ?_ GE547.out) | exact HB.out)) hb); clear HO550; clear BK547; clear HB; have HO550 := n0_; have BK547 := n1_; have HB := n2_; clear n0_ n1_ n2_; (try clear hb); (try clear hb2); (try clear hk); (try clear hi)))
    go_ret2
    exact ⟨_, by first | rfl | (simp [errW_none, errW_some] <;> rfl) | (simp [*, errW_none, errW_some] <;> rfl), by (with_reducible repeat (first | apply ao_ | apply ap_ | apply aq_)); exact HO550.out, by repeat (first | (with_reducible first | exact HB.out | apply ai_ | apply ag_ | apply ah_ | refine af_ ?_ GE547.out) | exact HB.out)⟩
  · replace c4 := Bool.eq_false_iff.mpr c4
    subst c4
    have H1 : (some (([] : List (S83)), false)) = some (r1, r2) := by rw [if_neg (show ¬ (false = true) by decide)] at H; exact H
    clear H
    have H := H1
    clear H1
    simp only [Option.some.injEq, Prod.mk.injEq] at H
    obtain ⟨rfl, rfl⟩ := H
    go_enter Try.func77, Try.ntmps77
    go_wp2_with (first | ((with_reducible refine gate_dst (N := 1) rfl ?_); refine box_event ?hg (N := 1) ?hd (cs := #[.bool a0_0, .int .i64 a0_1, .slice A0_2 l0_2.length c0_2]) (t := 93) ?hr ?_; (case hd => rfl); (case hg => rfl); (case hr => first | (go_simp; done) | (go_simp; rfl)); intro gb547 hg w10 hbox hb; have n0_ := ab_ (au_ (by repeat (first | (with_reducible first | exact HB.out | apply ai_ | apply ag_ | apply ah_) | exact HB.out)) hb); have n1_ := ab_ (hbox); have n2_ := ab_ ((by rw [hg]; exact (below_size (by repeat (first | (with_reducible first | exact HB.out | apply ai_ | apply ag_ | apply ah_) | exact HB.out))) : w.heap.size ≤ gb547)); have n3_ := ab_ ((by rw [hg]; exact (below_size (by repeat (first | (with_reducible first | exact HB.out | apply ai_ | apply ag_ | apply ah_) | exact HB.out))) : w.heap.size ≤ gb547)); clear HB; have HB := n0_; have BK547 := n1_; have GW547 := n2_; have GE547 := n3_; clear n0_ n1_ n2_ n3_; clear hb hbox hg; have hcz11_0 : w10.cell? ⟨gb547, 0, none⟩ = some (.bool a0_0) := (an_ BK547.out 0).trans rfl; have hcz11_1 : w10.cell? ⟨gb547, 1, none⟩ = some (.int .i64 a0_1) := (an_ BK547.out 1).trans rfl; have hcz11_2 : w10.cell? ⟨gb547, 2, none⟩ = some (.slice A0_2 l0_2.length c0_2) := (an_ BK547.out 2).trans rfl; have hfz11_0 := am_ BK547.out 0; have hfz11_1 := am_ BK547.out 1; have hfz11_2 := am_ BK547.out 2) | ((with_reducible refine gate_callee (f := 71) rfl ?_); refine goesL_ (some 6) rfl rfl Try.func71 (by kernel_rfl) rfl #[.agg #[.bool a0_0, .int .i64 a0_1, .slice A0_2 l0_2.length c0_2], .slice none 0 0] rfl (by (try simp only [List.map_toArray, List.map_cons, List.map_nil]); first | done | rfl | (simp only [List.length_drop, List.length_take]; rfl)) ?_; (refine (spec_l9Flat.calls a0_0 a0_1 _ _ l0_2 (fun k_ => some k_ = (.slice none 0 0 : Value).ownBlock) (.slice none 0 0) ([] : List (S83)) t548 w _ ?side1 ?side2 ?side3 ?side4 A2.out).mono ?_); (case side1 => repeat (first | (with_reducible first | exact HB.out | apply ai_ | apply ag_ | apply ah_ | refine af_ ?_ GE547.out) | exact HB.out)); (case side2 => exact Kd.C_kept_came k93_heap HR0_2.out (by repeat (first | (with_reducible first | exact HB.out | apply ai_ | apply ag_ | apply ah_ | refine af_ ?_ GE547.out) | exact HB.out)) (fun k_ hs_ => (fun e_ => by simp [Value.ownBlock] at e_) hs_)); (case side3 => exact HC0_2.out); (case side4 => exact Kd.R_nil _ _ _ _ _); rintro e w12 ⟨v549, rfl, ho0, hb, hkp⟩; refine ⟨_, rfl, ?_⟩; have n0_ := ab_ (blk_kept (by (with_reducible repeat (first | refine ac_ ?_ _ | refine ae_ ?_ | refine ad_ ?_ _)); exact BK547.out) hkp (fun hs_ => (fun e_ => by simp [Value.ownBlock] at e_) hs_)); have n1_ := ab_ (Kd.R_mono (ok' := fun k_ => True) ho0 (fun k_ hk_ => trivial)); have n2_ := ab_ (hb); clear BK547; clear HB; have BK547 := n0_; have HO550 := n1_; have HB := n2_; clear n0_ n1_ n2_; (try clear hb); (try clear hkp); (try clear ho0); obtain ⟨Ao13, co13, eo13⟩ := Kd.R_slice HO550.out; subst eo13) | ((with_reducible refine gate_callee (f := 19) rfl ?_); refine goesL_ (some 8) rfl rfl Try.func19 (by kernel_rfl) rfl #[.slice Ao13 t548.length co13] rfl (by (try simp only [List.map_toArray, List.map_cons, List.map_nil]); first | done | rfl | (simp only [List.length_drop, List.length_take]; rfl)) ?_; (with_reducible refine (spec_GoodComp.calls k _ _ t548 false _ ?side1 ?side2 A3.out).mono ?_); (case side1 => repeat (first | exact (Kd.R_reads' HO550.out).2.2 | (with_reducible refine ar_ ?_ _) | (with_reducible refine as_ ?_ _) | (with_reducible refine Kd.C_drew ?_))); (case side2 => exact (Kd.R_reads' HO550.out).2.1); rintro e w14 ⟨rfl, hb⟩; refine ⟨_, rfl, ?_⟩; have n0_ := ab_ (Kd.R_below (by (with_reducible repeat (first | apply ao_ | apply ap_ | apply aq_)); exact HO550.out) hb); have n1_ := ab_ (blk_below (g := gb547) (o := .cells #[.bool a0_0, .int .i64 a0_1, .slice A0_2 l0_2.length c0_2] 93 (0, 0)) (by (with_reducible repeat (first | refine ac_ ?_ _ | refine ae_ ?_ | refine ad_ ?_ _)); exact BK547.out) hb); have n2_ := ab_ (au_ (by repeat (first | (with_reducible first | exact HB.out | apply ai_ | apply ag_ | apply ah_ | refine af_ ?_ GE547.out) | exact HB.out)) hb); clear HO550; clear BK547; clear HB; have HO550 := n0_; have BK547 := n1_; have HB := n2_; clear n0_ n1_ n2_; (try clear hb); (try clear hb2); (try clear hk); (try clear hi)))
    go_ret2
    exact ⟨_, by first | rfl | (simp [errW_none, errW_some] <;> rfl) | (simp [*, errW_none, errW_some] <;> rfl), by first | exact Kd.R_nil _ _ _ _ _ | exact Kd.N_nil _ _ _ _ _ | exact Kd.V_nil _ _ _ _ _ | exact Kd.Q_nil _ _ _ _ _ | exact Kd.S_nil _ _ _ _ _, by repeat (first | (with_reducible first | exact HB.out | apply ai_ | apply ag_ | apply ah_ | refine af_ ?_ GE547.out) | exact HB.out)⟩
end Go.Proofs.Ytjnaokdncemggaa.PAll

end

section
namespace Go.Proofs.Ytjnaokdncemggaa.PAll
open Go.RowKit Go.Proofs.YtjnaokdncemggaaW.PrintWords Go.Proofs.YtjnaokdncemggaaW.PrintLast Go.Proofs.YtjnaokdncemggaaW.PrintMore
attribute [local go_sem] max2_int min2_int max_two min_two max_three min_three max_four min_four   -- for this text's walks alone
set_option linter.unusedVariables false
set_option linter.unusedSimpArgs false
def laws_toRuleS.l0 : Nat → List (S126) → List (S82) → Int → Option ((List (S82)))
  | 0, _, _, _ => none
  | k + 1, x0, x3, x4 => if x4 < (x0.length : Int) then (if 0 ≤ x4 then ((laws_toRule.f ((rd_T126 x0 x4).f0) ((rd_T126 x0 x4).f1)).bind fun bt116 => (if x4 < (x3.length : Int) then (laws_toRuleS.l0 k x0 (x3.set (x4 : Int).toNat (⟨bt116.1, bt116.2⟩ : S82)) (wrap64 (x4 + 1))) else (none))) else (none)) else (some x3)
def laws_toRuleS.f (k : Nat) (l0 : List (S126)) : Option ((List (S82))) := if 0 ≤ (l0.length : Int) then (if ((l0.length : Int) : Int).toNat ≤ 17592186044416 then (laws_toRuleS.l0 k l0 (List.replicate ((l0.length : Int) : Int).toNat z82) 0) else (none)) else (none)
theorem laws_toRuleS.mono_l : ∀ k, (∀ y0 y1 y2, LeO (laws_toRuleS.l0 k y0 y1 y2) (laws_toRuleS.l0 (k + 1) y0 y1 y2))
  | 0 => fun _ _ _ r h => by simp [laws_toRuleS.l0] at h
  | k + 1 => by
    have ih0 := laws_toRuleS.mono_l k
    · intro y0 y1 y2
      unfold laws_toRuleS.l0
      repeat' first
      | (with_reducible exact ih0 _ _ _)
      | (with_reducible exact LeO.refl _)
      | (with_reducible exact LeO.none _)
      | (with_reducible refine LeO.ite ?_ ?_)
      | (with_reducible refine LeO.bind ?_ (fun _ => ?_))
      | exact ih0 _ _ _
      | exact LeO.none _
      | refine LeO.ite ?_ ?_
      | refine LeO.bind ?_ (fun _ => ?_)
theorem laws_toRuleS.mono : ∀ a0 k, LeO (laws_toRuleS.f k a0) (laws_toRuleS.f (k + 1) a0) := by
  intro a0 k
  have ih0 := laws_toRuleS.mono_l k
  unfold laws_toRuleS.f
  repeat' first
      | (with_reducible exact ih0 _ _ _)
      | (with_reducible exact LeO.refl _)
      | (with_reducible exact LeO.none _)
      | (with_reducible refine LeO.ite ?_ ?_)
      | (with_reducible refine LeO.bind ?_ (fun _ => ?_))
      | exact ih0 _ _ _
      | exact LeO.none _
      | refine LeO.ite ?_ ?_
      | refine LeO.bind ?_ (fun _ => ?_)
set_option maxHeartbeats 8000000 in
set_option maxRecDepth 100000 in
theorem laws_toRuleS.calls (k : Nat) (A0 : Option Addr) (c0 : Nat) (l0 : List (S126)) (r : List (S82)) (w : World) (hr0 : Kd.C k126 w A0 l0.length l0) (hc0 : l0.length ≤ c0) (h : laws_toRuleS.f k l0 = some r) :
    Calls Try.prog 58 #[.slice A0 l0.length c0] w fun e w' => ∃ v0_ : Value, e = .returned (v0_) ∧ Kd.R k82 82 w' w.heap.size (fun _ => True) v0_ r ∧ Below w.heap.size w w' := by
  have hu126 := Try.underlying126
  have hu82 := Try.underlying82
  have HR0 := ab_ hr0
  have HC0 := ab_ hc0
  clear hr0 hc0
  have HB := ab_ (av_ w.heap.size w)
  have H : (if 0 ≤ (l0.length : Int) then (if ((l0.length : Int) : Int).toNat ≤ 17592186044416 then (laws_toRuleS.l0 k l0 (List.replicate ((l0.length : Int) : Int).toNat z82) 0) else (none)) else (none)) = some r := h
  clear h
  by_cases c2 : 0 ≤ (l0.length : Int)
  · rw [if_pos c2] at H
    have c2b0 := eq_true c2
    have c2b1 : decide (0 ≤ (l0.length : Int)) = true := at_ c2
    clear c2
    by_cases c3 : ((l0.length : Int) : Int).toNat ≤ 17592186044416
    · rw [if_pos c3] at H
      have c3b0 := eq_true c3
      have c3b1 : decide (((l0.length : Int) : Int).toNat ≤ 17592186044416) = true := at_ c3
      clear c3
      obtain ⟨y112, hy112⟩ : ∃ y_ : List (S82), y_ = (List.replicate ((l0.length : Int) : Int).toNat z82) := ⟨_, rfl⟩
      replace H : (laws_toRuleS.l0 k l0 y112 0) = some r := by first | (rw [hy112]; with_reducible exact H) | (have H2_ := (Option.bind_some _ _).symm.trans H; rw [hy112]; with_reducible exact H2_) | (have H2_ := (Option.bind_some _ _).symm.trans H; with_reducible exact H2_) | with_reducible exact H | (rw [hy112]; exact H) | exact H
      have Ny112 := ab_ hy112
      clear hy112
      have H' := ab_ H
      clear H
      go_enter Try.func58, Try.ntmps58
      go_wp2_with (first | ((with_reducible refine gate_dst (N := 7) rfl ?_); refine Kd.R_make k82 _ 82 rfl (N := 7) rfl 27 _ _ rfl (l0.length : Int) rfl rfl Try.underlying27 (.agg #[(.int .i64 0), (.int .i64 0)]) 16 info82 rfl (by decide) (by omega) z82 (ok := fun _ => True) (okp := fun _ => True) (k82_mkM _ _ _ z82 ) (fun _ hk => hk) trivial (of_decide_eq_true (by first | (with_reducible assumption) | assumption)) (Nat.le_trans (Nat.mul_le_mul_right _ (of_decide_eq_true (by first | (with_reducible assumption) | assumption) : (l0.length : Int).toNat ≤ 17592186044416)) (by omega)) (av_ _ _) (Nat.le_refl _) ?_; intro v113 w4 ho5 hb hg_ hnew_; clear hg_ hnew_; (first | rw [← Ny112.out] at ho5 | (simp only [Int.reduceToNat] at ho5; rw [← Ny112.out] at ho5)); have n0_ := ab_ (Kd.R_lower ho5 (below_size (by repeat (first | (with_reducible first | exact HB.out | apply ai_ | apply ag_ | apply ah_) | exact HB.out)))); have n1_ := ab_ (au_ (by repeat (first | (with_reducible first | exact HB.out | apply ai_ | apply ag_ | apply ah_) | exact HB.out)) hb); clear HB; have HO114 := n0_; have HB := n1_; clear n0_ n1_; clear hb ho5))
      go_loopg [4] k (fun kq v4 w' => ∃ (x3_1 : List (S82)) (x4_1 : Int), v4 = .int .i64 x4_1 ∧ Aside0 (laws_toRuleS.l0 kq l0 x3_1 x4_1 = some r) ∧ Aside0 (kq ≤ k) ∧ Aside0 (Kd.R k82 82 w' w.heap.size (fun _ => True) v113 x3_1) ∧ Aside0 (Below w.heap.size w w'))
      case atStart => exact ⟨(y112), (0), (by first | rfl | (simp; done) | (simp [*]; done)), H', ⟨Nat.le_refl _⟩, ⟨by (with_reducible repeat (first | apply ao_ | apply ap_ | apply aq_)); exact HO114.out⟩, ⟨by repeat (first | (with_reducible first | exact HB.out | apply ai_ | apply ag_ | apply ah_) | exact HB.out)⟩⟩
      case round =>
        clear H'
        try clear c2
        try clear c2b0
        try clear c2b1
        try clear p2
        try clear c3
        try clear c3b0
        try clear c3b1
        try clear c5
        obtain ⟨x3_1, x4_1, rfl, HA, HK1, HO_3, HB⟩ := hrel
        cases gk with
        | zero => exact absurd HA.out (by simp [laws_toRuleS.l0])
        | succ k1 =>
          have H := HA.out
          clear HA
          simp only [laws_toRuleS.l0] at H
          by_cases c6 : x4_1 < (l0.length : Int)
          · rw [if_pos c6] at H
            have c6b0 : decide (x4_1 < (l0.length : Int)) = true := at_ c6
            clear c6
            by_cases c7 : 0 ≤ x4_1
            · rw [if_pos c7] at H
              have c7b0 : decide (0 ≤ x4_1) = true := at_ c7
              clear c7
              replace H := Option.bind_eq_some_iff.mp H
              obtain ⟨⟨t116, t117⟩, A80, H⟩ := H
              replace H : (if x4_1 < (x3_1.length : Int) then (laws_toRuleS.l0 k1 l0 (x3_1.set (x4_1 : Int).toNat (⟨t116, t117⟩ : S82)) (wrap64 (x4_1 + 1))) else (none)) = some r := H
              have A8 := ab_ A80
              clear A80
              by_cases c9 : x4_1 < (x3_1.length : Int)
              · rw [if_pos c9] at H
                have c9b0 : decide (x4_1 < (x3_1.length : Int)) = true := at_ c9
                clear c9
                obtain ⟨y118, hy118⟩ : ∃ y_ : List (S82), y_ = (x3_1.set (x4_1 : Int).toNat (⟨t116, t117⟩ : S82)) := ⟨_, rfl⟩
                replace H : (laws_toRuleS.l0 k1 l0 y118 (wrap64 (x4_1 + 1))) = some r := by first | (rw [hy118]; with_reducible exact H) | (have H2_ := (Option.bind_some _ _).symm.trans H; rw [hy118]; with_reducible exact H2_) | (have H2_ := (Option.bind_some _ _).symm.trans H; with_reducible exact H2_) | with_reducible exact H | (rw [hy118]; exact H) | exact H
                have Ny118 := ab_ hy118
                clear hy118
                have H' := ab_ H
                clear H
                have p115 : 0 ≤ (x4_1 : Int) := of_decide_eq_true (by first | (with_reducible assumption) | assumption)
                have q115 : x4_1 < (l0.length : Int) := of_decide_eq_true (by first | (with_reducible assumption) | assumption)
                obtain ⟨ad115, e115, hx115_0, hx115_1⟩ := at_T126 HR0.out x4_1 p115 q115
                cases e115
                replace hx115_0 := (HB.out.cell (aa_ w _ hx115_0)).trans hx115_0
                replace hx115_1 := (HB.out.cell (aa_ w _ hx115_1)).trans hx115_1
                replace p115 := eq_true p115
                replace q115 := eq_true q115
                go_wp2_with (first | ((with_reducible refine gate_callee (f := 88) rfl ?_); refine goesL_ (some 20) rfl rfl Try.func88 (by kernel_rfl) rfl #[.agg #[.int .i64 ((rd_T126 l0 x4_1).f0), .int .i64 ((rd_T126 l0 x4_1).f1)]] rfl (by (try simp only [List.map_toArray, List.map_cons, List.map_nil]); first | done | rfl | (simp only [List.length_drop, List.length_take]; rfl)) ?_; (with_reducible refine (laws_toRule.calls ((rd_T126 l0 x4_1).f0) ((rd_T126 l0 x4_1).f1) t116 t117 _ A8.out).mono ?_); rintro e w11 ⟨rfl, hb⟩; refine ⟨_, rfl, ?_⟩; have n0_ := ab_ (Kd.R_below (by (with_reducible repeat (first | apply ao_ | apply ap_ | apply aq_)); exact HO_3.out) hb); have n1_ := ab_ (au_ (by repeat (first | (with_reducible first | exact HB.out | apply ai_ | apply ag_ | apply ah_) | exact HB.out)) hb); clear HO_3; clear HB; have HO_3 := n0_; have HB := n1_; clear n0_ n1_; (try clear hb); (try clear hb2); (try clear hk); (try clear hi); have p10 : 0 ≤ (x4_1 : Int) := of_decide_eq_true (by first | (with_reducible assumption) | assumption); have q10 : (x4_1 : Int) < ((x3_1.length : Int) : Int) := of_decide_eq_true (by first | (with_reducible assumption) | assumption); obtain ⟨go10, co10, eo10, gb10, gl10, cl10, HG10⟩ := Kd.R_form HO_3.out (by omega); (first | cases eo10 | (injection eo10 with ea_ en_ ec_; (first | subst ea_ | (injection ea_ with ea_; subst ea_)); subst ec_; clear en_)); have GB10 := ab_ gb10; have GG10 := ab_ HG10; clear gb10 gl10 HG10; obtain ⟨ce10, hcl10, hM10, hcc10, hfr10⟩ := Kd.R_elem HO_3.out z82 (x4_1 : Int) p10 q10; obtain rfl := k82_openM hM10; have hx10_0 : w11.cell? ⟨go10, (x4_1 : Int).toNat * 2, none⟩ = some (.int .i64 ((rd_T82 x3_1 x4_1).f0)) := hcc10 0 _ rfl; have hx10_1 : w11.cell? ⟨go10, (x4_1 : Int).toNat * 2 + 1, none⟩ = some (.int .i64 ((rd_T82 x3_1 x4_1).f1)) := hcc10 1 _ rfl; have hf10_0 : w11.frozen? ⟨go10, (x4_1 : Int).toNat * 2, none⟩ = false := hfr10 0; have hf10_1 : w11.frozen? ⟨go10, (x4_1 : Int).toNat * 2 + 1, none⟩ = false := hfr10 1; (try clear hcl10); (try clear hcc10); (try clear hfr10); (try clear hM10); replace p10 := eq_true p10; replace q10 := eq_true q10; have HX12 := ab_ (show Kd.R k82 82 w11 w.heap.size (fun _ => True) (.slice (some ⟨go10, 0, none⟩) x3_1.length co10) x3_1 from (by (with_reducible repeat (first | apply ao_ | apply ap_ | apply aq_)); exact HO_3.out)); obtain ⟨ce12, hcl12, hM12, hcc12, hfr12⟩ := Kd.R_elem HX12.out z82 (x4_1 : Int) (of_decide_eq_true (by first | (with_reducible assumption) | assumption)) (by have h_ : (x4_1 : Int) < ((x3_1.length : Int) : Int) := of_decide_eq_true (by first | (with_reducible assumption) | assumption); first | exact h_ | (have e_ := (Kd.R_reads' HO_3.out).1; omega) | simpa using h_); obtain rfl := k82_openM hM12; have HP12 := Kd.R_seg HX12.out (x4_1 : Int) (of_decide_eq_true (by first | (with_reducible assumption) | assumption)) (by have h_ : (x4_1 : Int) < ((x3_1.length : Int) : Int) := of_decide_eq_true (by first | (with_reducible assumption) | assumption); first | exact h_ | (have e_ := (Kd.R_reads' HO_3.out).1; omega) | simpa using h_) (seg := [.int .i64 t116, .int .i64 t117]) (j := 0) hcl12 hcc12 (show 2 ≤ 2 from by decide) (x' := (⟨t116, t117⟩ : S82)) (k82_mkM _ _ _ (⟨t116, t117⟩ : S82) ) (fun _ hk => hk); have hx12_0 := hcc12 0 _ rfl; (try simp only [show (k82).sz = 2 from rfl, Nat.mul_one, Nat.add_zero] at hx12_0); have hf12_0 := hfr12 0; (try simp only [show (k82).sz = 2 from rfl, Nat.mul_one, Nat.add_zero] at hf12_0); have hx12_1 := hcc12 1 _ rfl; (try simp only [show (k82).sz = 2 from rfl, Nat.mul_one, Nat.add_zero] at hx12_1); have hf12_1 := hfr12 1; (try simp only [show (k82).sz = 2 from rfl, Nat.mul_one, Nat.add_zero] at hf12_1); (try clear hcl12); (try clear hcc12); (try clear hfr12); (try clear hM12)) | ((with_reducible refine gate_store (t := 82) (p := 21) rfl ?_); refine store_event (t := 82) (p := 21) (v := ?vo_w13) (w1 := ((w11.setCell ⟨go10, (x4_1 : Int).toNat * 2, none⟩ (.int .i64 t116)).setCell ⟨go10, (x4_1 : Int).toNat * 2 + 1, none⟩ (.int .i64 t117))) ?hg ?ho ?hn ?hr ?_; (case ho => rfl); (case hg => rfl); (case hn => rfl); (case hr => first | (go_simp; done) | (go_simp; rfl)); intro w13 hw; have hg : w11.grownBy w13 (some go10) := (by rw [hw]; exact HP12.2); have hp_ : Kd.R k82 82 w13 w.heap.size (fun _ => True) (.slice (some ⟨go10, 0, none⟩) x3_1.length co10) y118 := (by rw [hw, Ny118.out]; exact HP12.1); clear HP12; have n0_ := ab_ (hp_); have n1_ := ab_ ((by rw [hw]; exact af_ (af_ (HB.out) GB10.out) GB10.out : Below w.heap.size w w13)); clear HO_3; clear HB; have HO_3 := n0_; have HB := n1_; clear n0_ n1_; clear hg hw hp_))
                go_roundg k1
                case measure => have := HK1.out; omega
                case rel => exact ⟨(y118), (wrap64 (x4_1 + 1)), (by first | rfl | (simp; done) | (simp [*]; done)), H', ⟨by have := HK1.out; omega⟩, ⟨by (with_reducible repeat (first | apply ao_ | apply ap_ | apply aq_)); exact HO_3.out⟩, ⟨by repeat (first | (with_reducible first | exact HB.out | apply ai_ | apply ag_ | apply ah_) | exact HB.out)⟩⟩
              · rw [if_neg c9] at H
                exact absurd H (by simp)
            · rw [if_neg c7] at H
              exact absurd H (by simp)
          · rw [if_neg c6] at H
            have c6b0 : decide (x4_1 < (l0.length : Int)) = false := decide_eq_false c6
            clear c6
            obtain rfl := Option.some.inj H
            go_wp2
            go_ret
            exact ⟨_, by first | rfl | (simp [errW_none, errW_some] <;> rfl) | (simp [*, errW_none, errW_some] <;> rfl), by (with_reducible repeat (first | apply ao_ | apply ap_ | apply aq_)); exact HO_3.out, by repeat (first | (with_reducible first | exact HB.out | apply ai_ | apply ag_ | apply ah_) | exact HB.out)⟩
    · rw [if_neg c3] at H
      exact absurd H (by simp)
  · rw [if_neg c2] at H
    exact absurd H (by simp)
def laws_toHandler.f (k : Nat) (a0_0 : Int) (l0_1 : List (S126)) : Option (Int × (List (S82))) := (laws_toRuleS.f k l0_1).bind fun t122 => (some (a0_0, t122))
theorem laws_toHandler.mono : ∀ a0 a1 k, LeO (laws_toHandler.f k a0 a1) (laws_toHandler.f (k + 1) a0 a1) := by
  intro a0 a1 k
  unfold laws_toHandler.f
  repeat' first
      | (with_reducible exact laws_toRuleS.mono _ _)
      | (with_reducible exact LeO.refl _)
      | (with_reducible exact LeO.none _)
      | (with_reducible refine LeO.ite ?_ ?_)
      | (with_reducible refine LeO.bind ?_ (fun _ => ?_))
      | exact laws_toRuleS.mono _ _
      | exact LeO.none _
      | refine LeO.ite ?_ ?_
      | refine LeO.bind ?_ (fun _ => ?_)
set_option maxHeartbeats 8000000 in
set_option maxRecDepth 100000 in
theorem laws_toHandler.calls (k : Nat) (a0_0 : Int) (A0_1 : Option Addr) (c0_1 : Nat) (l0_1 : List (S126)) (r1 : Int) (r2 : List (S82)) (w : World) (hr0_1 : Kd.C k126 w A0_1 l0_1.length l0_1) (hc0_1 : l0_1.length ≤ c0_1) (h : laws_toHandler.f k a0_0 l0_1 = some (r1, r2)) :
    Calls Try.prog 15 #[.agg #[.int .i64 a0_0, .slice A0_1 l0_1.length c0_1]] w fun e w' => ∃ v1_ : Value, e = .returned (.agg #[.int .i64 r1, v1_]) ∧ Kd.R k82 82 w' w.heap.size (fun _ => True) v1_ r2 ∧ Below w.heap.size w w' := by
  have hu24 := Try.underlying24
  have hu29 := Try.underlying29
  have HR0_1 := ab_ hr0_1
  have HC0_1 := ab_ hc0_1
  clear hr0_1 hc0_1
  have HB := ab_ (av_ w.heap.size w)
  have H : ((laws_toRuleS.f k l0_1).bind fun t122 => (some (a0_0, t122))) = some (r1, r2) := h
  clear h
  replace H := Option.bind_eq_some_iff.mp H
  obtain ⟨t122, A20, H⟩ := H
  replace H : (some (a0_0, t122)) = some (r1, r2) := H
  have A2 := ab_ A20
  clear A20
  simp only [Option.some.injEq, Prod.mk.injEq] at H
  obtain ⟨rfl, rfl⟩ := H
  go_enter Try.func15, Try.ntmps15
  go_wp2_with (first | ((with_reducible refine gate_dst (N := 1) rfl ?_); refine box_event ?hg (N := 1) ?hd (cs := #[.int .i64 a0_0, .slice A0_1 l0_1.length c0_1]) (t := 24) ?hr ?_; (case hd => rfl); (case hg => rfl); (case hr => first | (go_simp; done) | (go_simp; rfl)); intro gb119 hg w3 hbox hb; have n0_ := ab_ (au_ (by repeat (first | (with_reducible first | exact HB.out | apply ai_ | apply ag_ | apply ah_) | exact HB.out)) hb); have n1_ := ab_ (hbox); have n2_ := ab_ ((by rw [hg]; exact (below_size (by repeat (first | (with_reducible first | exact HB.out | apply ai_ | apply ag_ | apply ah_) | exact HB.out))) : w.heap.size ≤ gb119)); have n3_ := ab_ ((by rw [hg]; exact (below_size (by repeat (first | (with_reducible first | exact HB.out | apply ai_ | apply ag_ | apply ah_) | exact HB.out))) : w.heap.size ≤ gb119)); clear HB; have HB := n0_; have BK119 := n1_; have GW119 := n2_; have GE119 := n3_; clear n0_ n1_ n2_ n3_; clear hb hbox hg) | ((with_reducible refine gate_dst (N := 2) rfl ?_); refine box_event ?hg (N := 2) ?hd (cs := #[.int .i64 0, .slice none 0 0]) (t := 29) ?hr ?_; (case hd => rfl); (case hg => rfl); (case hr => first | (go_simp; done) | (go_simp; rfl)); intro gb120 hg w4 hbox hb; have n0_ := ab_ (blk_below (g := gb119) (o := .cells #[.int .i64 a0_0, .slice A0_1 l0_1.length c0_1] 24 (0, 0)) (by (with_reducible repeat (first | refine ac_ ?_ _ | refine ae_ ?_ | refine ad_ ?_ _)); exact BK119.out) hb); have n1_ := ab_ (au_ (by repeat (first | (with_reducible first | exact HB.out | apply ai_ | apply ag_ | apply ah_ | refine af_ ?_ GE119.out) | exact HB.out)) hb); have n2_ := ab_ (hbox); have n3_ := ab_ ((by rw [hg]; exact (below_size (by repeat (first | (with_reducible first | exact HB.out | apply ai_ | apply ag_ | apply ah_ | refine af_ ?_ GE119.out) | exact HB.out))) : w.heap.size ≤ gb120)); have n4_ := ab_ ((by rw [hg]; exact (below_size (by repeat (first | (with_reducible first | exact HB.out | apply ai_ | apply ag_ | apply ah_ | refine af_ ?_ GE119.out) | exact HB.out))) : w.heap.size ≤ gb120)); have n5_ := ab_ ((by rw [hg]; exact ak_ (blk_lt (g := gb119) (o := .cells #[.int .i64 a0_0, .slice A0_1 l0_1.length c0_1] 24 (0, 0)) (by (with_reducible repeat (first | refine ac_ ?_ _ | refine ae_ ?_ | refine ad_ ?_ _)); exact BK119.out)) : gb119 ≠ gb120)); have n6_ := ab_ ((by rw [hg]; exact Nat.ne_of_gt (blk_lt (g := gb119) (o := .cells #[.int .i64 a0_0, .slice A0_1 l0_1.length c0_1] 24 (0, 0)) (by (with_reducible repeat (first | refine ac_ ?_ _ | refine ae_ ?_ | refine ad_ ?_ _)); exact BK119.out)) : gb120 ≠ gb119)); clear BK119; clear HB; have BK119 := n0_; have HB := n1_; have BK120 := n2_; have GW120 := n3_; have GE120 := n4_; have NB119_120 := n5_; have NB120_119 := n6_; clear n0_ n1_ n2_ n3_ n4_ n5_ n6_; clear hb hbox hg) | ((with_reducible refine gate_dst (N := 3) rfl ?_); refine box_event ?hg (N := 3) ?hd (cs := #[.int .i64 0, .slice none 0 0]) (t := 29) ?hr ?_; (case hd => rfl); (case hg => rfl); (case hr => first | (go_simp; done) | (go_simp; rfl)); intro gb121 hg w5 hbox hb; have n0_ := ab_ (blk_below (g := gb119) (o := .cells #[.int .i64 a0_0, .slice A0_1 l0_1.length c0_1] 24 (0, 0)) (by (with_reducible repeat (first | refine ac_ ?_ _ | refine ae_ ?_ | refine ad_ ?_ _)); exact BK119.out) hb); have n1_ := ab_ (blk_below (g := gb120) (o := .cells #[.int .i64 0, .slice none 0 0] 29 (0, 0)) (by (with_reducible repeat (first | refine ac_ ?_ _ | refine ae_ ?_ | refine ad_ ?_ _)); exact BK120.out) hb); have n2_ := ab_ (au_ (by repeat (first | (with_reducible first | exact HB.out | apply ai_ | apply ag_ | apply ah_ | refine af_ ?_ GE119.out | refine af_ ?_ GE120.out) | exact HB.out)) hb); have n3_ := ab_ (hbox); have n4_ := ab_ ((by rw [hg]; exact (below_size (by repeat (first | (with_reducible first | exact HB.out | apply ai_ | apply ag_ | apply ah_ | refine af_ ?_ GE119.out | refine af_ ?_ GE120.out) | exact HB.out))) : w.heap.size ≤ gb121)); have n5_ := ab_ ((by rw [hg]; exact (below_size (by repeat (first | (with_reducible first | exact HB.out | apply ai_ | apply ag_ | apply ah_ | refine af_ ?_ GE119.out | refine af_ ?_ GE120.out) | exact HB.out))) : w.heap.size ≤ gb121)); have n6_ := ab_ ((by rw [hg]; exact ak_ (blk_lt (g := gb119) (o := .cells #[.int .i64 a0_0, .slice A0_1 l0_1.length c0_1] 24 (0, 0)) (by (with_reducible repeat (first | refine ac_ ?_ _ | refine ae_ ?_ | refine ad_ ?_ _)); exact BK119.out)) : gb119 ≠ gb121)); have n7_ := ab_ ((by rw [hg]; exact Nat.ne_of_gt (blk_lt (g := gb119) (o := .cells #[.int .i64 a0_0, .slice A0_1 l0_1.length c0_1] 24 (0, 0)) (by (with_reducible repeat (first | refine ac_ ?_ _ | refine ae_ ?_ | refine ad_ ?_ _)); exact BK119.out)) : gb121 ≠ gb119)); have n8_ := ab_ ((by rw [hg]; exact ak_ (blk_lt (g := gb120) (o := .cells #[.int .i64 0, .slice none 0 0] 29 (0, 0)) (by (with_reducible repeat (first | refine ac_ ?_ _ | refine ae_ ?_ | refine ad_ ?_ _)); exact BK120.out)) : gb120 ≠ gb121)); have n9_ := ab_ ((by rw [hg]; exact Nat.ne_of_gt (blk_lt (g := gb120) (o := .cells #[.int .i64 0, .slice none 0 0] 29 (0, 0)) (by (with_reducible repeat (first | refine ac_ ?_ _ | refine ae_ ?_ | refine ad_ ?_ _)); exact BK120.out)) : gb121 ≠ gb120)); clear BK119; clear BK120; clear HB; have BK119 := n0_; have BK120 := n1_; have HB := n2_; have BK121 := n3_; have GW121 := n4_; have GE121 := n5_; have NB119_121 := n6_; have NB121_119 := n7_; have NB120_121 := n8_; have NB121_120 := n9_; clear n0_ n1_ n2_ n3_ n4_ n5_ n6_ n7_ n8_ n9_; clear hb hbox hg; have hnb6 := NB119_120.out; have hnc6 := NB120_119.out; have hnb7 := NB119_121.out; have hnc7 := NB121_119.out; have hcz8_0 : w5.cell? ⟨gb119, 0, none⟩ = some (.int .i64 a0_0) := (an_ BK119.out 0).trans rfl; have hcz8_1 : w5.cell? ⟨gb119, 1, none⟩ = some (.slice A0_1 l0_1.length c0_1) := (an_ BK119.out 1).trans rfl; have hfz8_0 := am_ BK119.out 0; have hfz8_1 := am_ BK119.out 1; have hnb9 := NB121_120.out; have hnc9 := NB120_121.out; have hcz10_0 : w5.cell? ⟨gb121, 0, none⟩ = some (.int .i64 0) := (an_ BK121.out 0).trans rfl; have hcz10_1 : w5.cell? ⟨gb121, 1, none⟩ = some (.slice none 0 0) := (an_ BK121.out 1).trans rfl; have hfz10_0 := am_ BK121.out 0; have hfz10_1 := am_ BK121.out 1) | ((with_reducible refine gate_callee (f := 58) rfl ?_); refine goesL_ (some 9) rfl rfl Try.func58 (by kernel_rfl) rfl #[.slice A0_1 l0_1.length c0_1] rfl (by (try simp only [List.map_toArray, List.map_cons, List.map_nil]); first | done | rfl | (simp only [List.length_drop, List.length_take]; rfl)) ?_; (with_reducible refine (laws_toRuleS.calls k _ _ l0_1 t122 _ ?side1 ?side2 A2.out).mono ?_); (case side1 => exact Kd.C_below HR0_1.out (by repeat (first | (with_reducible first | exact HB.out | apply ai_ | apply ag_ | apply ah_ | refine af_ ?_ GE119.out | refine af_ ?_ GE120.out | refine af_ ?_ GE121.out) | exact HB.out))); (case side2 => exact HC0_1.out); rintro e w11 ⟨v123, rfl, ho0, hb⟩; refine ⟨_, rfl, ?_⟩; have n0_ := ab_ (Kd.R_lower ho0 (below_size (by repeat (first | (with_reducible first | exact HB.out | apply ai_ | apply ag_ | apply ah_ | refine af_ ?_ GE119.out | refine af_ ?_ GE120.out | refine af_ ?_ GE121.out) | exact HB.out)))); have n1_ := ab_ (blk_below (g := gb119) (o := .cells #[.int .i64 a0_0, .slice A0_1 l0_1.length c0_1] 24 (0, 0)) (by (with_reducible repeat (first | refine ac_ ?_ _ | refine ae_ ?_ | refine ad_ ?_ _)); refine blk_far ?_ NB119_121.out _; (with_reducible repeat (first | refine ac_ ?_ _ | refine ae_ ?_ | refine ad_ ?_ _)); exact BK119.out) hb); have n2_ := ab_ (blk_below (g := gb120) (o := .cells #[.int .i64 0, .slice none 0 0] 29 (0, 0)) (by (with_reducible repeat (first | refine ac_ ?_ _ | refine ae_ ?_ | refine ad_ ?_ _)); refine blk_far ?_ NB120_121.out _; (with_reducible repeat (first | refine ac_ ?_ _ | refine ae_ ?_ | refine ad_ ?_ _)); exact BK120.out) hb); have n3_ := ab_ (blk_below (g := gb121) (o := .cells #[.int .i64 a0_0, .slice none 0 0] 29 (0, 0)) (by (with_reducible repeat (first | refine ac_ ?_ _ | refine ae_ ?_ | refine ad_ ?_ _)); refine blk_put (cs := #[.int .i64 0, .slice none 0 0]) ?_ 0 _ rfl; (with_reducible repeat (first | refine ac_ ?_ _ | refine ae_ ?_ | refine ad_ ?_ _)); exact BK121.out) hb); have n4_ := ab_ (au_ (by repeat (first | (with_reducible first | exact HB.out | apply ai_ | apply ag_ | apply ah_ | refine af_ ?_ GE119.out | refine af_ ?_ GE120.out | refine af_ ?_ GE121.out) | exact HB.out)) hb); clear BK119; clear BK120; clear BK121; clear HB; have HO124 := n0_; have BK119 := n1_; have BK120 := n2_; have BK121 := n3_; have HB := n4_; clear n0_ n1_ n2_ n3_ n4_; (try clear hb); (try clear hb2); (try clear hk); (try clear hi); (try clear ho0); obtain ⟨Ao12, co12, eo12⟩ := Kd.R_slice HO124.out; subst eo12; have hcz13_0 : w11.cell? ⟨gb121, 0, none⟩ = some (.int .i64 a0_0) := (an_ BK121.out 0).trans rfl; have hcz13_1 : w11.cell? ⟨gb121, 1, none⟩ = some (.slice none 0 0) := (an_ BK121.out 1).trans rfl; have hfz13_0 := am_ BK121.out 0; have hfz13_1 := am_ BK121.out 1; have hcz14_0 : w11.cell? ⟨gb120, 0, none⟩ = some (.int .i64 0) := (an_ BK120.out 0).trans rfl; have hcz14_1 : w11.cell? ⟨gb120, 1, none⟩ = some (.slice none 0 0) := (an_ BK120.out 1).trans rfl; have hfz14_0 := am_ BK120.out 0; have hfz14_1 := am_ BK120.out 1))
  refine bodyPost_ret (results_cell_row rfl _ _ gb120 29 #[.int .i64 a0_0, .slice Ao12 t122.length co12] (0, 0) _ rfl (by (with_reducible repeat (first | refine ac_ ?_ _ | refine ae_ ?_ | refine ad_ ?_ _)); refine blk_put (cs := #[.int .i64 a0_0, .slice none 0 0]) ?_ 1 _ rfl; (with_reducible repeat (first | refine ac_ ?_ _ | refine ae_ ?_ | refine ad_ ?_ _)); refine blk_put (cs := #[.int .i64 0, .slice none 0 0]) ?_ 0 _ rfl; (with_reducible repeat (first | refine ac_ ?_ _ | refine ae_ ?_ | refine ad_ ?_ _)); refine blk_far ?_ NB120_121.out _; (with_reducible repeat (first | refine ac_ ?_ _ | refine ae_ ?_ | refine ad_ ?_ _)); exact BK120.out) Try.underlying29 rfl (by kernel_rfl)) rfl ?_
  exact ⟨_, by first | rfl | (simp [errW_none, errW_some] <;> rfl) | (simp [*, errW_none, errW_some] <;> rfl), by (with_reducible repeat (first | apply ao_ | apply ap_ | apply aq_)); exact Kd.R_mono (Kd.R_far (p := ⟨gb120, 1, none⟩) (Kd.R_far (p := ⟨gb120, 0, none⟩) (Kd.R_far (p := ⟨gb121, 1, none⟩) (Kd.R_types (Kd.R_types HO124.out BK121.out (by decide)) BK120.out (by decide)) (fun _ hk => hk.1.2) (.slice Ao12 t122.length co12)) (fun _ hk => hk.2) (.int .i64 a0_0)) (fun _ hk => hk.2) (.slice Ao12 t122.length co12)) (fun _ hk => trivial), by repeat (first | (with_reducible first | exact HB.out | apply ai_ | apply ag_ | apply ah_ | refine af_ ?_ GE119.out | refine af_ ?_ GE120.out | refine af_ ?_ GE121.out) | exact HB.out)⟩
def impl_within.f (a0 : Int) (a1 : Int) (a2 : Int) : Option (Bool) := if a0 ≥ a1 then (some (decide (a0 ≤ a2))) else (some false)
set_option maxHeartbeats 8000000 in
set_option maxRecDepth 100000 in
theorem impl_within.calls (a0 : Int) (a1 : Int) (a2 : Int) (r : Bool) (w : World) (h : impl_within.f a0 a1 a2 = some r) :
    Calls Try.prog 59 #[.int .i64 a0, .int .i64 a1, .int .i64 a2] w fun e w' => e = .returned (.bool r) ∧ Drawn0 w w' := by
  have H : (if a0 ≥ a1 then (some (decide (a0 ≤ a2))) else (some false)) = some r := h
  clear h
  by_cases c4 : a0 ≥ a1
  · rw [if_pos c4] at H
    have c4b0 : decide (a1 ≤ a0) = true := at_ c4
    clear c4
    obtain rfl := Option.some.inj H
    go_enter Try.func59, Try.ntmps59
    go_wp2
    go_ret
    exact ⟨by first | rfl | (simp; done) | (simp [*]; done), by repeat (first | exact Drawn0.refl _ | apply Drawn0.step)⟩
  · rw [if_neg c4] at H
    have c4b0 : decide (a1 ≤ a0) = false := decide_eq_false c4
    clear c4
    obtain rfl := Option.some.inj H
    go_enter Try.func59, Try.ntmps59
    go_wp2
    go_ret
    exact ⟨by first | rfl | (simp; done) | (simp [*]; done), by repeat (first | exact Drawn0.refl _ | apply Drawn0.step)⟩
end Go.Proofs.Ytjnaokdncemggaa.PAll

end

section
namespace Go.Proofs.Ytjnaokdncemggaa.PAll
open Go.RowKit Go.Proofs.YtjnaokdncemggaaW.PrintWords Go.Proofs.YtjnaokdncemggaaW.PrintLast Go.Proofs.YtjnaokdncemggaaW.PrintMore
attribute [local go_sem] max2_int min2_int max_two min_two max_three min_three max_four min_four   -- for this text's walks alone
set_option linter.unusedVariables false
set_option linter.unusedSimpArgs false
mutual
def spec_l9Size.l0 : Nat → Int → List (S93) → Int → Int → Option (Int)
  | 0, _, _, _, _ => none
  | k + 1, x3, x7, x8, x9 => if x9 < x8 then (if 0 ≤ x9 then (if x9 < (x7.length : Int) then ((spec_l9Size.f k ((rd_T93 x7 x9).f0) ((rd_T93 x7 x9).f1) ((rd_T93 x7 x9).f2)).bind fun t880 => (spec_l9Size.l0 k (wrap64 (x3 + t880)) x7 x8 (wrap64 (x9 + 1)))) else (none)) else (none)) else (some x3)
def spec_l9Size.f : Nat → Bool → Int → List (S93) → Option (Int)
  | 0, _, _, _ => none
  | k + 1, a0_0, a0_1, l0_2 => spec_l9Size.l0 k 1 l0_2 (l0_2.length : Int) 0
end
theorem spec_l9Size.mono_l : ∀ k, (∀ y0 y1 y2, LeO (spec_l9Size.f k y0 y1 y2) (spec_l9Size.f (k + 1) y0 y1 y2)) ∧ (∀ y0 y1 y2 y3, LeO (spec_l9Size.l0 k y0 y1 y2 y3) (spec_l9Size.l0 (k + 1) y0 y1 y2 y3))
  | 0 => ⟨fun _ _ _ r h => by simp [spec_l9Size.f] at h, fun _ _ _ _ r h => by simp [spec_l9Size.l0] at h⟩
  | k + 1 => by
    obtain ⟨ih0, ih1⟩ := spec_l9Size.mono_l k
    refine ⟨?_, ?_⟩
    · intro y0 y1 y2
      unfold spec_l9Size.f
      repeat' first
      | (with_reducible exact ih0 _ _ _)
      | (with_reducible exact ih1 _ _ _ _)
      | (with_reducible exact LeO.refl _)
      | (with_reducible exact LeO.none _)
      | (with_reducible refine LeO.ite ?_ ?_)
      | (with_reducible refine LeO.bind ?_ (fun _ => ?_))
      | exact ih0 _ _ _
      | exact ih1 _ _ _ _
      | exact LeO.none _
      | refine LeO.ite ?_ ?_
      | refine LeO.bind ?_ (fun _ => ?_)
    · intro y0 y1 y2 y3
      unfold spec_l9Size.l0
      repeat' first
      | (with_reducible exact ih0 _ _ _)
      | (with_reducible exact ih1 _ _ _ _)
      | (with_reducible exact LeO.refl _)
      | (with_reducible exact LeO.none _)
      | (with_reducible refine LeO.ite ?_ ?_)
      | (with_reducible refine LeO.bind ?_ (fun _ => ?_))
      | exact ih0 _ _ _
      | exact ih1 _ _ _ _
      | exact LeO.none _
      | refine LeO.ite ?_ ?_
      | refine LeO.bind ?_ (fun _ => ?_)
theorem spec_l9Size.mono : ∀ a0 a1 a2 k, LeO (spec_l9Size.f k a0 a1 a2) (spec_l9Size.f (k + 1) a0 a1 a2) := by
  intro a0 a1 a2 k
  obtain ⟨ih0, ih1⟩ := spec_l9Size.mono_l k
  exact ih0 a0 a1 a2
set_option maxHeartbeats 8000000 in
set_option maxRecDepth 100000 in
theorem spec_l9Size.calls (k : Nat) : ∀ (a0_0 : Bool) (a0_1 : Int) (A0_2 : Option Addr) (c0_2 : Nat) (l0_2 : List (S93)) (r : Int) (w : World) (hr0_2 : Kd.C k93 w A0_2 l0_2.length l0_2) (hc0_2 : l0_2.length ≤ c0_2) (h : spec_l9Size.f k a0_0 a0_1 l0_2 = some r),
    Calls Try.prog 99 #[.agg #[.bool a0_0, .int .i64 a0_1, .slice A0_2 l0_2.length c0_2]] w fun e w' => e = .returned (.int .i64 r) ∧ Below w.heap.size w w' := by
  induction k using Nat.strongRecOn with
  | _ k ih =>
  intro a0_0 a0_1 A0_2 c0_2 l0_2 r w hr0_2 hc0_2 h
  cases k with
  | zero => exact absurd h (by simp [spec_l9Size.f])
  | succ k =>
  simp only [spec_l9Size.f] at h
  have hu93 := Try.underlying93
  have HR0_2 := ab_ hr0_2
  have HC0_2 := ab_ hc0_2
  clear hr0_2 hc0_2
  have HB := ab_ (av_ w.heap.size w)
  have H : (spec_l9Size.l0 k 1 l0_2 (l0_2.length : Int) 0) = some r := h
  clear h
  have H' := ab_ H
  clear H
  go_enter Try.func99, Try.ntmps99
  go_wp2_with (first | ((with_reducible refine gate_dst (N := 1) rfl ?_); refine box_event ?hg (N := 1) ?hd (cs := #[.bool a0_0, .int .i64 a0_1, .slice A0_2 l0_2.length c0_2]) (t := 93) ?hr ?_; (case hd => rfl); (case hg => rfl); (case hr => first | (go_simp; done) | (go_simp; rfl)); intro gb877 hg w2 hbox hb; have n0_ := ab_ (au_ (by repeat (first | (with_reducible first | exact HB.out | apply ai_ | apply ag_ | apply ah_) | exact HB.out)) hb); have n1_ := ab_ (hbox); have n2_ := ab_ ((by rw [hg]; exact (below_size (by repeat (first | (with_reducible first | exact HB.out | apply ai_ | apply ag_ | apply ah_) | exact HB.out))) : w.heap.size ≤ gb877)); have n3_ := ab_ ((by rw [hg]; exact (below_size (by repeat (first | (with_reducible first | exact HB.out | apply ai_ | apply ag_ | apply ah_) | exact HB.out))) : w.heap.size ≤ gb877)); clear HB; have HB := n0_; have BK877 := n1_; have GW877 := n2_; have GE877 := n3_; clear n0_ n1_ n2_ n3_; clear hb hbox hg; have hcz3_0 : w2.cell? ⟨gb877, 0, none⟩ = some (.bool a0_0) := (an_ BK877.out 0).trans rfl; have hcz3_1 : w2.cell? ⟨gb877, 1, none⟩ = some (.int .i64 a0_1) := (an_ BK877.out 1).trans rfl; have hcz3_2 : w2.cell? ⟨gb877, 2, none⟩ = some (.slice A0_2 l0_2.length c0_2) := (an_ BK877.out 2).trans rfl; have hfz3_0 := am_ BK877.out 0; have hfz3_1 := am_ BK877.out 1; have hfz3_2 := am_ BK877.out 2))
  go_loopg [3, 9] k (fun kq v3 v9 w' => ∃ (x3_1 : Int) (x9_1 : Int), v3 = .int .i64 x3_1 ∧ v9 = .int .i64 x9_1 ∧ Aside0 (spec_l9Size.l0 kq x3_1 l0_2 (l0_2.length : Int) x9_1 = some r) ∧ Aside0 (kq ≤ k) ∧ Aside0 (w'.heap[gb877]? = some (.cells #[.bool a0_0, .int .i64 a0_1, (.slice A0_2 l0_2.length c0_2)] 93 (0, 0))) ∧ Aside0 (Below w.heap.size w w'))
  case atStart => exact ⟨(1), (0), (by first | rfl | (simp; done) | (simp [*]; done)), (by first | rfl | (simp; done) | (simp [*]; done)), H', ⟨Nat.le_refl _⟩, ⟨by (with_reducible repeat (first | refine ac_ ?_ _ | refine ae_ ?_ | refine ad_ ?_ _)); exact BK877.out⟩, ⟨by repeat (first | (with_reducible first | exact HB.out | apply ai_ | apply ag_ | apply ah_ | refine af_ ?_ GE877.out) | exact HB.out)⟩⟩
  case round =>
    clear H'
    try clear p2
    try clear hcz3_0
    try clear hcz3_1
    try clear hcz3_2
    try clear hfz3_0
    try clear hfz3_1
    try clear hfz3_2
    obtain ⟨x3_1, x9_1, rfl, rfl, HA, HK1, BK877, HB⟩ := hrel
    cases gk with
    | zero => exact absurd HA.out (by simp [spec_l9Size.l0])
    | succ k1 =>
      have H := HA.out
      clear HA
      simp only [spec_l9Size.l0] at H
      by_cases c4 : x9_1 < (l0_2.length : Int)
      · rw [if_pos c4] at H
        have c4b0 : decide (x9_1 < (l0_2.length : Int)) = true := at_ c4
        clear c4
        by_cases c5 : 0 ≤ x9_1
        · rw [if_pos c5] at H
          have c5b0 : decide (0 ≤ x9_1) = true := at_ c5
          clear c5
          by_cases c6 : x9_1 < (l0_2.length : Int)
          · rw [if_pos c6] at H
            have c6b0 : decide (x9_1 < (l0_2.length : Int)) = true := at_ c6
            clear c6
            replace H := Option.bind_eq_some_iff.mp H
            obtain ⟨t880, A70, H⟩ := H
            replace H : (spec_l9Size.l0 k1 (wrap64 (x3_1 + t880)) l0_2 (l0_2.length : Int) (wrap64 (x9_1 + 1))) = some r := H
            have A7 := ab_ A70
            clear A70
            have H' := ab_ H
            clear H
            have p878 : 0 ≤ (x9_1 : Int) := of_decide_eq_true (by first | (with_reducible assumption) | assumption)
            have q878 : x9_1 < (l0_2.length : Int) := of_decide_eq_true (by first | (with_reducible assumption) | assumption)
            obtain ⟨ad878, A878_2, c878_2, e878, hx878_0, hx878_1, hx878_2, hl878_2, hi878_2⟩ := at_T93 HR0_2.out x9_1 p878 q878
            cases e878
            replace hx878_0 := (HB.out.cell (aa_ w _ hx878_0)).trans hx878_0
            replace hx878_1 := (HB.out.cell (aa_ w _ hx878_1)).trans hx878_1
            replace hx878_2 := (HB.out.cell (aa_ w _ hx878_2)).trans hx878_2
            have HR878_2 := ab_ hi878_2
            have HC878_2 := ab_ hl878_2
            clear hi878_2 hl878_2
            replace p878 := eq_true p878
            replace q878 := eq_true q878
            go_wp2_with (first | ((with_reducible refine gate_dst (N := 5) rfl ?_); refine box_event ?hg (N := 5) ?hd (cs := #[.bool false, .int .i64 0, .slice none 0 0]) (t := 93) ?hr ?_; (case hd => rfl); (case hg => rfl); (case hr => first | (go_simp; done) | (go_simp; rfl)); intro gb879 hg w8 hbox hb; have n0_ := ab_ (blk_below (g := gb877) (o := .cells #[.bool a0_0, .int .i64 a0_1, .slice (some ad878) l0_2.length c0_2] 93 (0, 0)) (by (with_reducible repeat (first | refine ac_ ?_ _ | refine ae_ ?_ | refine ad_ ?_ _)); exact BK877.out) hb); have n1_ := ab_ (au_ (by repeat (first | (with_reducible first | exact HB.out | apply ai_ | apply ag_ | apply ah_ | refine af_ ?_ GE877.out) | exact HB.out)) hb); have n2_ := ab_ (hbox); have n3_ := ab_ ((by rw [hg]; exact (below_size (by repeat (first | (with_reducible first | exact HB.out | apply ai_ | apply ag_ | apply ah_ | refine af_ ?_ GE877.out) | exact HB.out))) : w.heap.size ≤ gb879)); have n4_ := ab_ ((by rw [hg]; exact (below_size (by repeat (first | (with_reducible first | exact HB.out | apply ai_ | apply ag_ | apply ah_ | refine af_ ?_ GE877.out) | exact HB.out))) : w.heap.size ≤ gb879)); have n5_ := ab_ ((by rw [hg]; exact ak_ (blk_lt (g := gb877) (o := .cells #[.bool a0_0, .int .i64 a0_1, .slice (some ad878) l0_2.length c0_2] 93 (0, 0)) (by (with_reducible repeat (first | refine ac_ ?_ _ | refine ae_ ?_ | refine ad_ ?_ _)); exact BK877.out)) : gb877 ≠ gb879)); have n6_ := ab_ ((by rw [hg]; exact Nat.ne_of_gt (blk_lt (g := gb877) (o := .cells #[.bool a0_0, .int .i64 a0_1, .slice (some ad878) l0_2.length c0_2] 93 (0, 0)) (by (with_reducible repeat (first | refine ac_ ?_ _ | refine ae_ ?_ | refine ad_ ?_ _)); exact BK877.out)) : gb879 ≠ gb877)); clear BK877; clear HB; have BK877 := n0_; have HB := n1_; have BK879 := n2_; have GW879 := n3_; have GE879 := n4_; have NB877_879 := n5_; have NB879_877 := n6_; clear n0_ n1_ n2_ n3_ n4_ n5_ n6_; clear hb hbox hg; have hnb9 := NB879_877.out; have hnc9 := NB877_879.out; have hcz10_0 : w8.cell? ⟨gb879, 0, none⟩ = some (.bool false) := (an_ BK879.out 0).trans rfl; have hcz10_1 : w8.cell? ⟨gb879, 1, none⟩ = some (.int .i64 0) := (an_ BK879.out 1).trans rfl; have hcz10_2 : w8.cell? ⟨gb879, 2, none⟩ = some (.slice none 0 0) := (an_ BK879.out 2).trans rfl; have hfz10_0 := am_ BK879.out 0; have hfz10_1 := am_ BK879.out 1; have hfz10_2 := am_ BK879.out 2) | ((with_reducible refine gate_callee (f := 99) rfl ?_); refine goesL_ (some 15) rfl rfl Try.func99 (by kernel_rfl) rfl #[.agg #[.bool ((rd_T93 l0_2 x9_1).f0), .int .i64 ((rd_T93 l0_2 x9_1).f1), .slice A878_2 ((rd_T93 l0_2 x9_1).f2).length c878_2]] rfl (by (try simp only [List.map_toArray, List.map_cons, List.map_nil]); first | done | rfl | (simp only [List.length_drop, List.length_take]; rfl)) ?_; (with_reducible refine (ih k1 (by have := HK1.out; omega) ((rd_T93 l0_2 x9_1).f0) ((rd_T93 l0_2 x9_1).f1) _ _ ((rd_T93 l0_2 x9_1).f2) t880 _ ?side1 ?side2 A7.out).mono ?_); (case side1 => exact Kd.C_below HR878_2.out (by repeat (first | (with_reducible first | exact HB.out | apply ai_ | apply ag_ | apply ah_ | refine af_ ?_ GE877.out | refine af_ ?_ GE879.out) | exact HB.out))); (case side2 => exact HC878_2.out); rintro e w11 ⟨rfl, hb⟩; refine ⟨_, rfl, ?_⟩; have n0_ := ab_ (blk_below (g := gb877) (o := .cells #[.bool a0_0, .int .i64 a0_1, .slice (some ad878) l0_2.length c0_2] 93 (0, 0)) (by (with_reducible repeat (first | refine ac_ ?_ _ | refine ae_ ?_ | refine ad_ ?_ _)); refine blk_far ?_ NB877_879.out _; (with_reducible repeat (first | refine ac_ ?_ _ | refine ae_ ?_ | refine ad_ ?_ _)); refine blk_far ?_ NB877_879.out _; (with_reducible repeat (first | refine ac_ ?_ _ | refine ae_ ?_ | refine ad_ ?_ _)); refine blk_far ?_ NB877_879.out _; (with_reducible repeat (first | refine ac_ ?_ _ | refine ae_ ?_ | refine ad_ ?_ _)); exact BK877.out) hb); have n1_ := ab_ (blk_below (g := gb879) (o := .cells #[.bool ((rd_T93 l0_2 x9_1).f0), .int .i64 ((rd_T93 l0_2 x9_1).f1), .slice A878_2 ((rd_T93 l0_2 x9_1).f2).length c878_2] 93 (0, 0)) (by (with_reducible repeat (first | refine ac_ ?_ _ | refine ae_ ?_ | refine ad_ ?_ _)); refine blk_put (cs := #[.bool ((rd_T93 l0_2 x9_1).f0), .int .i64 ((rd_T93 l0_2 x9_1).f1), .slice none 0 0]) ?_ 2 _ rfl; (with_reducible repeat (first | refine ac_ ?_ _ | refine ae_ ?_ | refine ad_ ?_ _)); refine blk_put (cs := #[.bool ((rd_T93 l0_2 x9_1).f0), .int .i64 0, .slice none 0 0]) ?_ 1 _ rfl; (with_reducible repeat (first | refine ac_ ?_ _ | refine ae_ ?_ | refine ad_ ?_ _)); refine blk_put (cs := #[.bool false, .int .i64 0, .slice none 0 0]) ?_ 0 _ rfl; (with_reducible repeat (first | refine ac_ ?_ _ | refine ae_ ?_ | refine ad_ ?_ _)); exact BK879.out) hb); have n2_ := ab_ (au_ (by repeat (first | (with_reducible first | exact HB.out | apply ai_ | apply ag_ | apply ah_ | refine af_ ?_ GE877.out | refine af_ ?_ GE879.out) | exact HB.out)) hb); clear BK877; clear BK879; clear HB; have BK877 := n0_; have BK879 := n1_; have HB := n2_; clear n0_ n1_ n2_; (try clear hb); (try clear hb2); (try clear hk); (try clear hi)))
            go_roundg k1
            case measure => have := HK1.out; omega
            case rel => exact ⟨(wrap64 (x3_1 + t880)), (wrap64 (x9_1 + 1)), (by first | rfl | (simp; done) | (simp [*]; done)), (by first | rfl | (simp; done) | (simp [*]; done)), H', ⟨by have := HK1.out; omega⟩, ⟨by (with_reducible repeat (first | refine ac_ ?_ _ | refine ae_ ?_ | refine ad_ ?_ _)); exact BK877.out⟩, ⟨by repeat (first | (with_reducible first | exact HB.out | apply ai_ | apply ag_ | apply ah_ | refine af_ ?_ GE877.out | refine af_ ?_ GE879.out) | exact HB.out)⟩⟩
          · rw [if_neg c6] at H
            exact absurd H (by simp)
        · rw [if_neg c5] at H
          exact absurd H (by simp)
      · rw [if_neg c4] at H
        have c4b0 : decide (x9_1 < (l0_2.length : Int)) = false := decide_eq_false c4
        clear c4
        obtain rfl := Option.some.inj H
        go_wp2
        go_ret
        exact ⟨by first | rfl | (simp [errW_none, errW_some] <;> rfl) | (simp [*, errW_none, errW_some] <;> rfl), by repeat (first | (with_reducible first | exact HB.out | apply ai_ | apply ag_ | apply ah_ | refine af_ ?_ GE877.out) | exact HB.out)⟩
end Go.Proofs.Ytjnaokdncemggaa.PAll

end

section
namespace Go.Proofs.Ytjnaokdncemggaa.PAll
open Go.RowKit Go.Proofs.YtjnaokdncemggaaW.PrintWords Go.Proofs.YtjnaokdncemggaaW.PrintLast Go.Proofs.YtjnaokdncemggaaW.PrintMore
attribute [local go_sem] max2_int min2_int max_two min_two max_three min_three max_four min_four   -- for this text's walks alone
set_option linter.unusedVariables false
set_option linter.unusedSimpArgs false
def spec_l9Leaves.f : Nat → Bool → Int → List (S93) → Option (Int)
  | 0, _, _, _ => none
  | k + 1, a0_0, a0_1, l0_2 => if a0_0 = true then (if 0 < (l0_2.length : Int) then ((spec_l9Leaves.f k ((rd_T93 l0_2 0).f0) ((rd_T93 l0_2 0).f1) ((rd_T93 l0_2 0).f2)).bind fun t883 => (if 1 < (l0_2.length : Int) then ((spec_l9Leaves.f k ((rd_T93 l0_2 1).f0) ((rd_T93 l0_2 1).f1) ((rd_T93 l0_2 1).f2)).bind fun t885 => (some (wrap64 (t883 + t885)))) else (none))) else (none)) else (some 1)
theorem spec_l9Leaves.mono_l : ∀ k, (∀ y0 y1 y2, LeO (spec_l9Leaves.f k y0 y1 y2) (spec_l9Leaves.f (k + 1) y0 y1 y2))
  | 0 => fun _ _ _ r h => by simp [spec_l9Leaves.f] at h
  | k + 1 => by
    have ih0 := spec_l9Leaves.mono_l k
    · intro y0 y1 y2
      unfold spec_l9Leaves.f
      repeat' first
      | (with_reducible exact ih0 _ _ _)
      | (with_reducible exact LeO.refl _)
      | (with_reducible exact LeO.none _)
      | (with_reducible refine LeO.ite ?_ ?_)
      | (with_reducible refine LeO.bind ?_ (fun _ => ?_))
      | exact ih0 _ _ _
      | exact LeO.none _
      | refine LeO.ite ?_ ?_
      | refine LeO.bind ?_ (fun _ => ?_)
theorem spec_l9Leaves.mono : ∀ a0 a1 a2 k, LeO (spec_l9Leaves.f k a0 a1 a2) (spec_l9Leaves.f (k + 1) a0 a1 a2) := by
  intro a0 a1 a2 k
  have ih0 := spec_l9Leaves.mono_l k
  exact ih0 a0 a1 a2
def spec_l9Leaves.T3 : Bool × List (List Nat × List Nat) := (true, [([], []), ([0], [0]), ([1], [1]), ([2], [2]), ([3], [3]), ([], []), ([5], [5]), ([6], [6]), ([7], [7]), ([8, 4], [8]), ([4, 9], [4, 9]), ([10, 9, 0, 1, 2, 3, 4, 5, 6, 7, 8, 9, 10], [10])])
def spec_l9Leaves.B3 : List Nat := [0, 1, 3, 7, 15, 0, 32, 96, 224, 511, 1023, 2047]
theorem spec_l9Leaves.tab3 : rtab .any (opsOf Try.f100 3) = spec_l9Leaves.T3 := by kernel_rfl
theorem spec_l9Leaves.bits3 : waitsOk spec_l9Leaves.T3.2 spec_l9Leaves.B3 = true := by kernel_rfl
set_option maxHeartbeats 8000000 in
set_option maxRecDepth 100000 in
theorem spec_l9Leaves.calls (k : Nat) : ∀ (a0_0 : Bool) (a0_1 : Int) (A0_2 : Option Addr) (c0_2 : Nat) (l0_2 : List (S93)) (r : Int) (w : World) (hr0_2 : Kd.C k93 w A0_2 l0_2.length l0_2) (hc0_2 : l0_2.length ≤ c0_2) (h : spec_l9Leaves.f k a0_0 a0_1 l0_2 = some r),
    Calls Try.prog 100 #[.agg #[.bool a0_0, .int .i64 a0_1, .slice A0_2 l0_2.length c0_2]] w fun e w' => e = .returned (.int .i64 r) ∧ Below w.heap.size w w' := by
  induction k using Nat.strongRecOn with
  | _ k ih =>
  intro a0_0 a0_1 A0_2 c0_2 l0_2 r w hr0_2 hc0_2 h
  cases k with
  | zero => exact absurd h (by simp [spec_l9Leaves.f])
  | succ k =>
  simp only [spec_l9Leaves.f] at h
  have hu93 := Try.underlying93
  have HR0_2 := ab_ hr0_2
  have HC0_2 := ab_ hc0_2
  clear hr0_2 hc0_2
  have HB := ab_ (av_ w.heap.size w)
  have H : (if a0_0 = true then (if 0 < (l0_2.length : Int) then ((spec_l9Leaves.f k ((rd_T93 l0_2 0).f0) ((rd_T93 l0_2 0).f1) ((rd_T93 l0_2 0).f2)).bind fun t883 => (if 1 < (l0_2.length : Int) then ((spec_l9Leaves.f k ((rd_T93 l0_2 1).f0) ((rd_T93 l0_2 1).f1) ((rd_T93 l0_2 1).f2)).bind fun t885 => (some (wrap64 (t883 + t885)))) else (none))) else (none)) else (some 1)) = some r := h
  clear h
  by_cases c2 : a0_0 = true
  · subst c2
    have H1 : (if 0 < (l0_2.length : Int) then ((spec_l9Leaves.f k ((rd_T93 l0_2 0).f0) ((rd_T93 l0_2 0).f1) ((rd_T93 l0_2 0).f2)).bind fun t883 => (if 1 < (l0_2.length : Int) then ((spec_l9Leaves.f k ((rd_T93 l0_2 1).f0) ((rd_T93 l0_2 1).f1) ((rd_T93 l0_2 1).f2)).bind fun t885 => (some (wrap64 (t883 + t885)))) else (none))) else (none)) = some r := by rw [if_pos rfl] at H; exact H
    clear H
    have H := H1
    clear H1
    by_cases c3 : 0 < (l0_2.length : Int)
    · rw [if_pos c3] at H
      have c3b0 : decide (0 < (l0_2.length : Int)) = true := at_ c3
      have c3b1 : decide (0 < l0_2.length) = true := at_ (by omega)
      clear c3
      replace H := Option.bind_eq_some_iff.mp H
      obtain ⟨t883, A40, H⟩ := H
      replace H : (if 1 < (l0_2.length : Int) then ((spec_l9Leaves.f k ((rd_T93 l0_2 1).f0) ((rd_T93 l0_2 1).f1) ((rd_T93 l0_2 1).f2)).bind fun t885 => (some (wrap64 (t883 + t885)))) else (none)) = some r := H
      have A4 := ab_ A40
      clear A40
      by_cases c5 : 1 < (l0_2.length : Int)
      · rw [if_pos c5] at H
        have c5b0 : decide (1 < (l0_2.length : Int)) = true := at_ c5
        have c5b1 : decide (1 < l0_2.length) = true := at_ (by omega)
        clear c5
        replace H := Option.bind_eq_some_iff.mp H
        obtain ⟨t885, A60, H⟩ := H
        replace H : (some (wrap64 (t883 + t885))) = some r := H
        have A6 := ab_ A60
        clear A60
        obtain rfl := Option.some.inj H
        go_enter Try.func100, Try.ntmps100
        try go_wp2_with (first | ((with_reducible refine gate_dst (N := 1) rfl ?_); refine box_event ?hg (N := 1) ?hd (cs := #[.bool true, .int .i64 a0_1, .slice A0_2 l0_2.length c0_2]) (t := 93) ?hr ?_; (case hd => rfl); (case hg => rfl); (case hr => first | (go_simp; done) | (go_simp; rfl)); intro gb881 hg w7 hbox hb; have n0_ := ab_ (au_ (by repeat (first | (with_reducible first | exact HB.out | apply ai_ | apply ag_ | apply ah_) | exact HB.out)) hb); have n1_ := ab_ (hbox); have n2_ := ab_ ((by rw [hg]; exact (below_size (by repeat (first | (with_reducible first | exact HB.out | apply ai_ | apply ag_ | apply ah_) | exact HB.out))) : w.heap.size ≤ gb881)); have n3_ := ab_ ((by rw [hg]; exact (below_size (by repeat (first | (with_reducible first | exact HB.out | apply ai_ | apply ag_ | apply ah_) | exact HB.out))) : w.heap.size ≤ gb881)); clear HB; have HB := n0_; have BK881 := n1_; have GW881 := n2_; have GE881 := n3_; clear n0_ n1_ n2_ n3_; clear hb hbox hg; have hcz8_0 : w7.cell? ⟨gb881, 0, none⟩ = some (.bool true) := (an_ BK881.out 0).trans rfl; have hcz8_1 : w7.cell? ⟨gb881, 1, none⟩ = some (.int .i64 a0_1) := (an_ BK881.out 1).trans rfl; have hcz8_2 : w7.cell? ⟨gb881, 2, none⟩ = some (.slice A0_2 l0_2.length c0_2) := (an_ BK881.out 2).trans rfl; have hfz8_0 := am_ BK881.out 0; have hfz8_1 := am_ BK881.out 1; have hfz8_2 := am_ BK881.out 2))
        have n0_ := ab_ (ae_ BK881.out)
        have n1_ := ab_ (ah_ HB.out)
        clear BK881
        clear HB
        have BK881 := n0_
        have HB := n1_
        clear n0_ n1_
        have p882 : 0 ≤ (0 : Int) := (by omega)
        have q882 : 0 < (l0_2.length : Int) := of_decide_eq_true (by first | (with_reducible assumption) | assumption)
        obtain ⟨ad882, A882_2, c882_2, e882, hx882_0, hx882_1, hx882_2, hl882_2, hi882_2⟩ := at_T93 HR0_2.out 0 p882 q882
        have hw882_2 := hx882_2
        (try rw [show ((0 : Int)).toNat = 0 from rfl] at hw882_2)
        (try rw [show 0 * 3 = 0 from rfl] at hw882_2)
        (try rw [Addr.add_zero'] at hw882_2)
        have hw882_1 := hx882_1
        (try rw [show ((0 : Int)).toNat = 0 from rfl] at hw882_1)
        (try rw [show 0 * 3 = 0 from rfl] at hw882_1)
        (try rw [Addr.add_zero'] at hw882_1)
        have hw882_0 := hx882_0
        (try rw [show ((0 : Int)).toNat = 0 from rfl] at hw882_0)
        (try rw [show 0 * 3 = 0 from rfl] at hw882_0)
        (try rw [Addr.add_zero'] at hw882_0)
        cases e882
        have qi882 : (0 < l0_2.length) = True := eq_true (by omega)
        (try rw [show ((0 : Int)).toNat = 0 from rfl] at hx882_0)
        (try rw [show 0 * 3 = 0 from rfl] at hx882_0)
        (try rw [Addr.add_zero'] at hx882_0)
        (try rw [show ((0 : Int)).toNat = 0 from rfl] at hx882_1)
        (try rw [show 0 * 3 = 0 from rfl] at hx882_1)
        (try rw [Addr.add_zero'] at hx882_1)
        (try rw [show ((0 : Int)).toNat = 0 from rfl] at hx882_2)
        (try rw [show 0 * 3 = 0 from rfl] at hx882_2)
        (try rw [Addr.add_zero'] at hx882_2)
        replace hx882_0 := (HB.out.cell (aa_ w _ hx882_0)).trans hx882_0
        replace hx882_1 := (HB.out.cell (aa_ w _ hx882_1)).trans hx882_1
        replace hx882_2 := (HB.out.cell (aa_ w _ hx882_2)).trans hx882_2
        have HR882_2 := ab_ hi882_2
        have HC882_2 := ab_ hl882_2
        clear hi882_2 hl882_2
        replace p882 := eq_true p882
        replace q882 := eq_true q882
        have p884 : 0 ≤ (1 : Int) := (by omega)
        have q884 : 1 < (l0_2.length : Int) := of_decide_eq_true (by first | (with_reducible assumption) | assumption)
        obtain ⟨ad884, A884_2, c884_2, e884, hx884_0, hx884_1, hx884_2, hl884_2, hi884_2⟩ := at_T93 HR0_2.out 1 p884 q884
        have hw884_2 := hx884_2
        (try rw [show ((1 : Int)).toNat = 1 from rfl] at hw884_2)
        (try rw [show 1 * 3 = 3 from rfl] at hw884_2)
        (try simp only [Nat.reduceMul, Nat.reduceEqDiff, Go.Addr.add, ↓reduceIte] at hw884_2)
        have hw884_1 := hx884_1
        (try rw [show ((1 : Int)).toNat = 1 from rfl] at hw884_1)
        (try rw [show 1 * 3 = 3 from rfl] at hw884_1)
        (try simp only [Nat.reduceMul, Nat.reduceEqDiff, Go.Addr.add, ↓reduceIte] at hw884_1)
        have hw884_0 := hx884_0
        (try rw [show ((1 : Int)).toNat = 1 from rfl] at hw884_0)
        (try rw [show 1 * 3 = 3 from rfl] at hw884_0)
        (try simp only [Nat.reduceMul, Nat.reduceEqDiff, Go.Addr.add, ↓reduceIte] at hw884_0)
        obtain rfl : ad882 = ad884 := (by injection e884)
        (try simp only [show (1 : Int).toNat = 1 from rfl, Nat.reduceMul, Nat.reduceEqDiff, Go.Addr.add, ↓reduceIte] at hx884_0)
        (try simp only [show (1 : Int).toNat = 1 from rfl, Nat.reduceMul, Nat.reduceEqDiff, Go.Addr.add, ↓reduceIte] at hx884_1)
        (try simp only [show (1 : Int).toNat = 1 from rfl, Nat.reduceMul, Nat.reduceEqDiff, Go.Addr.add, ↓reduceIte] at hx884_2)
        have qi884 : (1 < l0_2.length) = True := eq_true (by omega)
        (try rw [show ((1 : Int)).toNat = 1 from rfl] at hx884_0)
        (try rw [show 1 * 3 = 3 from rfl] at hx884_0)
        (try rw [show ((1 : Int)).toNat = 1 from rfl] at hx884_1)
        (try rw [show 1 * 3 = 3 from rfl] at hx884_1)
        (try rw [show ((1 : Int)).toNat = 1 from rfl] at hx884_2)
        (try rw [show 1 * 3 = 3 from rfl] at hx884_2)
        replace hx884_0 := (HB.out.cell (aa_ w _ hx884_0)).trans hx884_0
        replace hx884_1 := (HB.out.cell (aa_ w _ hx884_1)).trans hx884_1
        replace hx884_2 := (HB.out.cell (aa_ w _ hx884_2)).trans hx884_2
        have HR884_2 := ab_ hi884_2
        have HC884_2 := ab_ hl884_2
        clear hi884_2 hl884_2
        replace p884 := eq_true p884
        replace q884 := eq_true q884
        refine start_ (n := 12) (S := fun w' => w'.cell? ⟨gb881, 0, none⟩ = some (.bool true) ∧ w'.cell? ⟨gb881, 1, none⟩ = some (.int .i64 a0_1) ∧ w'.cell? ⟨gb881, 2, none⟩ = some (.slice (some ad882) l0_2.length c0_2) ∧ w'.cell? ad882 = some (.bool ((rd_T93 l0_2 0).f0)) ∧ w'.cell? ⟨ad882.block, ad882.off + 1, none⟩ = some (.int .i64 ((rd_T93 l0_2 0).f1)) ∧ w'.cell? ⟨ad882.block, ad882.off + 2, none⟩ = some (.slice A882_2 ((rd_T93 l0_2 0).f2).length c882_2) ∧ w'.cell? ⟨ad882.block, ad882.off + 3, none⟩ = some (.bool ((rd_T93 l0_2 1).f0)) ∧ w'.cell? ⟨ad882.block, ad882.off + 3 + 1, none⟩ = some (.int .i64 ((rd_T93 l0_2 1).f1)) ∧ w'.cell? ⟨ad882.block, ad882.off + 3 + 2, none⟩ = some (.slice A884_2 ((rd_T93 l0_2 1).f2).length c884_2)) (ds := []) #[false, false, false, false, false, false, false, false, false, false, false, false] (by kernel_rfl) rfl rfl ⟨(an_ BK881.out 0).trans rfl, (an_ BK881.out 1).trans rfl, (an_ BK881.out 2).trans rfl, ((HB.out.cell (aa_ w _ hw882_0)).trans hw882_0), ((HB.out.cell (aa_ w _ hw882_1)).trans hw882_1), ((HB.out.cell (aa_ w _ hw882_2)).trans hw882_2), ((HB.out.cell (aa_ w _ hw884_0)).trans hw884_0), ((HB.out.cell (aa_ w _ hw884_1)).trans hw884_1), ((HB.out.cell (aa_ w _ hw884_2)).trans hw884_2)⟩ (fun hHeld => ?_); refine with_tabW spec_l9Leaves.tab3 spec_l9Leaves.bits3 (fun HT_ HW_ => ?_)
        generalize w7.drew = w9 at BK881 HB HR882_2 HR884_2 hx882_0 hx882_1 hx882_2 hx884_0 hx884_1 hx884_2 hHeld ⊢
        refine pure_ (i := 0) (N := some 6) (v := ?_) (a' := ?_) #[true, false, false, false, false, false, false, false, false, false, false, false] rfl rfl (any_of HT_.out (by kernel_rfl)) (fun _ _ _ h => h) (Or.inl ⟨by rfl, ?_⟩) ?_ ?_
        rotate_left
        · intro w'
          go_simp
          with_reducible rfl
        rotate_left
        · simp only [Act.put, List.setIfInBounds_toArray, List.set_cons_zero, List.set_cons_succ, i64_w, i32_w]
          rfl
        refine pure_ (i := 5) (N := some 11) (v := ?_) (a' := ?_) #[true, false, false, false, false, true, false, false, false, false, false, false] rfl rfl (any_of HT_.out (by kernel_rfl)) (fun _ _ _ h => h) (Or.inl ⟨by rfl, ?_⟩) ?_ ?_
        rotate_left
        · intro w'
          go_simp
          with_reducible rfl
        rotate_left
        · simp only [Act.put, List.setIfInBounds_toArray, List.set_cons_zero, List.set_cons_succ, i64_w, i32_w]
          rfl
        refine take_ (i := 1) (N := some 7) (v := ?_) (a' := ?_) #[true, true, false, false, false, true, false, false, false, false, false, false] rfl rfl (take_ofW HT_.out HW_.out (by kernel_rfl)) (fun _ _ _ h => h) (Or.inl ⟨by rfl, ?_⟩) hHeld ?_ ?_
        rotate_left
        · rintro w' ⟨s0, s1, s2, s3, s4, s5, s6, s7, s8⟩
          go_simp
          with_reducible rfl
        rotate_left
        · simp only [Act.put, List.setIfInBounds_toArray, List.set_cons_zero, List.set_cons_succ, i64_w, i32_w]
          rfl
        refine pure_ (i := 2) (N := some 8) (v := ?_) (a' := ?_) #[true, true, true, false, false, true, false, false, false, false, false, false] rfl rfl (any_of HT_.out (by kernel_rfl)) (fun _ _ _ h => h) (Or.inl ⟨by rfl, ?_⟩) ?_ ?_
        rotate_left
        · intro w'
          go_simp
          with_reducible rfl
        rotate_left
        · simp only [Act.put, List.setIfInBounds_toArray, List.set_cons_zero, List.set_cons_succ, i64_w, i32_w]
          rfl
        refine take_ (i := 3) (N := some 9) (v := ?_) (a' := ?_) #[true, true, true, true, false, true, false, false, false, false, false, false] rfl rfl (take_ofW HT_.out HW_.out (by kernel_rfl)) (fun _ _ _ h => h) (Or.inl ⟨by rfl, ?_⟩) hHeld ?_ ?_
        rotate_left
        · rintro w' ⟨s0, s1, s2, s3, s4, s5, s6, s7, s8⟩
          go_simp
          with_reducible rfl
        rotate_left
        · simp only [Act.put, List.setIfInBounds_toArray, List.set_cons_zero, List.set_cons_succ, i64_w, i32_w]
          rfl
        refine take_ (i := 6) (N := some 12) (v := ?_) (a' := ?_) #[true, true, true, true, false, true, true, false, false, false, false, false] rfl rfl (take_ofW HT_.out HW_.out (by kernel_rfl)) (fun _ _ _ h => h) (Or.inl ⟨by rfl, ?_⟩) hHeld ?_ ?_
        rotate_left
        · rintro w' ⟨s0, s1, s2, s3, s4, s5, s6, s7, s8⟩
          go_simp
          with_reducible rfl
        rotate_left
        · simp only [Act.put, List.setIfInBounds_toArray, List.set_cons_zero, List.set_cons_succ, i64_w, i32_w]
          rfl
        refine pure_ (i := 7) (N := some 13) (v := ?_) (a' := ?_) #[true, true, true, true, false, true, true, true, false, false, false, false] rfl rfl (any_of HT_.out (by kernel_rfl)) (fun _ _ _ h => h) (Or.inl ⟨by rfl, ?_⟩) ?_ ?_
        rotate_left
        · intro w'
          go_simp
          with_reducible rfl
        rotate_left
        · simp only [Act.put, List.setIfInBounds_toArray, List.set_cons_zero, List.set_cons_succ, i64_w, i32_w]
          rfl
        refine take_ (i := 8) (N := some 14) (v := ?_) (a' := ?_) #[true, true, true, true, false, true, true, true, true, false, false, false] rfl rfl (take_ofW HT_.out HW_.out (by kernel_rfl)) (fun _ _ _ h => h) (Or.inl ⟨by rfl, ?_⟩) hHeld ?_ ?_
        rotate_left
        · rintro w' ⟨s0, s1, s2, s3, s4, s5, s6, s7, s8⟩
          go_simp
          with_reducible rfl
        rotate_left
        · simp only [Act.put, List.setIfInBounds_toArray, List.set_cons_zero, List.set_cons_succ, i64_w, i32_w]
          rfl
        refine one_ (i := 4) (N := some 10) #[true, true, true, true, true, true, true, true, true, false, false, false] rfl rfl (one_of HT_.out (by kernel_rfl)) (by decide) (fun K hK => ?_)
        refine goes_ Try.func100 (by kernel_rfl) rfl #[.agg #[.bool ((rd_T93 l0_2 0).f0), .int .i64 ((rd_T93 l0_2 0).f1), .slice A882_2 ((rd_T93 l0_2 0).f2).length c882_2]] (by rfl) rfl rfl (by (try simp only [List.map_toArray, List.map_cons, List.map_nil]); first | done | rfl | (simp only [List.length_drop, List.length_take]; rfl)) ?_
        with_reducible refine (ih k (by omega) ((rd_T93 l0_2 0).f0) ((rd_T93 l0_2 0).f1) _ _ ((rd_T93 l0_2 0).f2) t883 _ ?side1 ?side2 A4.out).mono ?_
        (case side1 => repeat (first | exact (Kd.C_below HR882_2.out HB.out) | (with_reducible refine ar_ ?_ _) | (with_reducible refine as_ ?_ _) | (with_reducible refine Kd.C_drew ?_)))
        (case side2 => exact HC882_2.out)
        rintro e w10 ⟨rfl, hb⟩
        refine ⟨_, rfl, ?_⟩
        have n0_ := ab_ (blk_below (g := gb881) (o := .cells #[.bool true, .int .i64 a0_1, .slice (some ad882) l0_2.length c0_2] 93 (0, 0)) (by (with_reducible repeat (first | refine ac_ ?_ _ | refine ae_ ?_ | refine ad_ ?_ _)); exact BK881.out) hb)
        have n1_ := ab_ (au_ (by repeat (first | (with_reducible first | exact HB.out | apply ai_ | apply ag_ | apply ah_ | refine af_ ?_ GE881.out) | exact HB.out)) hb)
        clear BK881
        clear HB
        have BK881 := n0_
        have HB := n1_
        clear n0_ n1_
        (try clear hb)
        (try clear hb2)
        (try clear hk)
        (try clear hi)
        refine hK.out _ _ ⟨(an_ BK881.out 0).trans rfl, (an_ BK881.out 1).trans rfl, (an_ BK881.out 2).trans rfl, ((HB.out.cell (aa_ w _ hw882_0)).trans hw882_0), ((HB.out.cell (aa_ w _ hw882_1)).trans hw882_1), ((HB.out.cell (aa_ w _ hw882_2)).trans hw882_2), ((HB.out.cell (aa_ w _ hw884_0)).trans hw884_0), ((HB.out.cell (aa_ w _ hw884_1)).trans hw884_1), ((HB.out.cell (aa_ w _ hw884_2)).trans hw884_2)⟩ (fun hHeld => ?_)
        clear hK K
        refine norm_ (a' := ?_) ?_ ?_
        rotate_left
        · show Act.put _ (some 10) _ = _
          simp only [Act.put, List.setIfInBounds_toArray, List.set_cons_zero, List.set_cons_succ, i64_w, i32_w]
          rfl
        refine one_ (i := 9) (N := some 15) #[true, true, true, true, true, true, true, true, true, true, false, false] rfl rfl (one_of HT_.out (by kernel_rfl)) (by decide) (fun K hK => ?_)
        refine goes_ Try.func100 (by kernel_rfl) rfl #[.agg #[.bool ((rd_T93 l0_2 1).f0), .int .i64 ((rd_T93 l0_2 1).f1), .slice A884_2 ((rd_T93 l0_2 1).f2).length c884_2]] (by rfl) rfl rfl (by (try simp only [List.map_toArray, List.map_cons, List.map_nil]); first | done | rfl | (simp only [List.length_drop, List.length_take]; rfl)) ?_
        with_reducible refine (ih k (by omega) ((rd_T93 l0_2 1).f0) ((rd_T93 l0_2 1).f1) _ _ ((rd_T93 l0_2 1).f2) t885 _ ?side1 ?side2 A6.out).mono ?_
        (case side1 => repeat (first | exact (Kd.C_below HR884_2.out HB.out) | (with_reducible refine ar_ ?_ _) | (with_reducible refine as_ ?_ _) | (with_reducible refine Kd.C_drew ?_)))
        (case side2 => exact HC884_2.out)
        rintro e w11 ⟨rfl, hb⟩
        refine ⟨_, rfl, ?_⟩
        have n0_ := ab_ (blk_below (g := gb881) (o := .cells #[.bool true, .int .i64 a0_1, .slice (some ad882) l0_2.length c0_2] 93 (0, 0)) (by (with_reducible repeat (first | refine ac_ ?_ _ | refine ae_ ?_ | refine ad_ ?_ _)); exact BK881.out) hb)
        have n1_ := ab_ (au_ (by repeat (first | (with_reducible first | exact HB.out | apply ai_ | apply ag_ | apply ah_ | refine af_ ?_ GE881.out) | exact HB.out)) hb)
        clear BK881
        clear HB
        have BK881 := n0_
        have HB := n1_
        clear n0_ n1_
        (try clear hb)
        (try clear hb2)
        (try clear hk)
        (try clear hi)
        refine hK.out _ _ ⟨(an_ BK881.out 0).trans rfl, (an_ BK881.out 1).trans rfl, (an_ BK881.out 2).trans rfl, ((HB.out.cell (aa_ w _ hw882_0)).trans hw882_0), ((HB.out.cell (aa_ w _ hw882_1)).trans hw882_1), ((HB.out.cell (aa_ w _ hw882_2)).trans hw882_2), ((HB.out.cell (aa_ w _ hw884_0)).trans hw884_0), ((HB.out.cell (aa_ w _ hw884_1)).trans hw884_1), ((HB.out.cell (aa_ w _ hw884_2)).trans hw884_2)⟩ (fun hHeld => ?_)
        clear hK K
        refine norm_ (a' := ?_) ?_ ?_
        rotate_left
        · show Act.put _ (some 15) _ = _
          simp only [Act.put, List.setIfInBounds_toArray, List.set_cons_zero, List.set_cons_succ, i64_w, i32_w]
          rfl
        refine pure_ (i := 10) (N := some 16) (v := ?_) (a' := ?_) #[true, true, true, true, true, true, true, true, true, true, true, false] rfl rfl (any_of HT_.out (by kernel_rfl)) (fun _ _ _ h => h) (Or.inl ⟨by rfl, ?_⟩) ?_ ?_
        rotate_left
        · intro w'
          go_simp
          with_reducible rfl
        rotate_left
        · simp only [Act.put, List.setIfInBounds_toArray, List.set_cons_zero, List.set_cons_succ, i64_w, i32_w]
          rfl
        refine pure_ (i := 11) (N := some 2) (v := ?_) (a' := ?_) #[true, true, true, true, true, true, true, true, true, true, true, true] rfl rfl (any_of HT_.out (by kernel_rfl)) (fun _ _ _ h => h) (Or.inl ⟨by rfl, ?_⟩) ?_ ?_
        rotate_left
        · intro w'
          go_simp
          with_reducible rfl
        rotate_left
        · simp only [Act.put, List.setIfInBounds_toArray, List.set_cons_zero, List.set_cons_succ, i64_w, i32_w]
          rfl
        refine done_ (done_of HT_.out (by kernel_rfl)) ?_
        try go_wp2
        go_ret
        exact ⟨by first | rfl | (simp [errW_none, errW_some] <;> rfl) | (simp [*, errW_none, errW_some] <;> rfl), by repeat (first | (with_reducible first | exact HB.out | apply ai_ | apply ag_ | apply ah_ | refine af_ ?_ GE881.out) | exact HB.out)⟩
      · rw [if_neg c5] at H
        exact absurd H (by simp)
    · rw [if_neg c3] at H
      exact absurd H (by simp)
  · replace c2 := Bool.eq_false_iff.mpr c2
    subst c2
    have H1 : (some 1) = some r := by rw [if_neg (show ¬ (false = true) by decide)] at H; exact H
    clear H
    have H := H1
    clear H1
    obtain rfl := Option.some.inj H
    go_enter Try.func100, Try.ntmps100
    go_wp2_with (first | ((with_reducible refine gate_dst (N := 1) rfl ?_); refine box_event ?hg (N := 1) ?hd (cs := #[.bool false, .int .i64 a0_1, .slice A0_2 l0_2.length c0_2]) (t := 93) ?hr ?_; (case hd => rfl); (case hg => rfl); (case hr => first | (go_simp; done) | (go_simp; rfl)); intro gb881 hg w12 hbox hb; have n0_ := ab_ (au_ (by repeat (first | (with_reducible first | exact HB.out | apply ai_ | apply ag_ | apply ah_) | exact HB.out)) hb); have n1_ := ab_ (hbox); have n2_ := ab_ ((by rw [hg]; exact (below_size (by repeat (first | (with_reducible first | exact HB.out | apply ai_ | apply ag_ | apply ah_) | exact HB.out))) : w.heap.size ≤ gb881)); have n3_ := ab_ ((by rw [hg]; exact (below_size (by repeat (first | (with_reducible first | exact HB.out | apply ai_ | apply ag_ | apply ah_) | exact HB.out))) : w.heap.size ≤ gb881)); clear HB; have HB := n0_; have BK881 := n1_; have GW881 := n2_; have GE881 := n3_; clear n0_ n1_ n2_ n3_; clear hb hbox hg; have hcz13_0 : w12.cell? ⟨gb881, 0, none⟩ = some (.bool false) := (an_ BK881.out 0).trans rfl; have hcz13_1 : w12.cell? ⟨gb881, 1, none⟩ = some (.int .i64 a0_1) := (an_ BK881.out 1).trans rfl; have hcz13_2 : w12.cell? ⟨gb881, 2, none⟩ = some (.slice A0_2 l0_2.length c0_2) := (an_ BK881.out 2).trans rfl; have hfz13_0 := am_ BK881.out 0; have hfz13_1 := am_ BK881.out 1; have hfz13_2 := am_ BK881.out 2))
    go_ret
    exact ⟨by first | rfl | (simp [errW_none, errW_some] <;> rfl) | (simp [*, errW_none, errW_some] <;> rfl), by repeat (first | (with_reducible first | exact HB.out | apply ai_ | apply ag_ | apply ah_ | refine af_ ?_ GE881.out) | exact HB.out)⟩
end Go.Proofs.Ytjnaokdncemggaa.PAll

end
