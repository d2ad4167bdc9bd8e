-- Made by pack.py of the texts that the law reaches.
import Derived.Test.YtjnaokdncemggaaV3
section
namespace Go.Proofs.Ytjnaokdncemggaa.PAll
open Go.RowKit Go.Proofs.YtjnaokdncemggaaW.PrintWords Go.Proofs.YtjnaokdncemggaaW.PrintLast Go.Proofs.YtjnaokdncemggaaW.PrintMore
attribute [local go_sem] max2_int min2_int max_two min_two max_three min_three max_four min_four   -- for this text's walks alone
set_option linter.unusedVariables false
set_option linter.unusedSimpArgs false
def spec_l9With.f : Nat → Bool → Int → List (S93) → Bool → Int → List (S93) → Option (Bool × Int × (List (S93)))
  | 0, _, _, _, _, _, _ => none
  | k + 1, a0_0, a0_1, l0_2, a1_0, a1_1, l1_2 => if a0_0 = true then (if 0 < (l0_2.length : Int) then ((spec_l9With.f k ((rd_T93 l0_2 0).f0) ((rd_T93 l0_2 0).f1) ((rd_T93 l0_2 0).f2) a1_0 a1_1 l1_2).bind fun bt890 => (if 1 < (l0_2.length : Int) then ((spec_l9With.f k ((rd_T93 l0_2 1).f0) ((rd_T93 l0_2 1).f1) ((rd_T93 l0_2 1).f2) a1_0 a1_1 l1_2).bind fun bt896 => (some (true, a0_1, (([(⟨bt890.1, bt890.2.1, bt890.2.2⟩ : S93), (⟨bt896.1, bt896.2.1, bt896.2.2⟩ : S93)] : List (S93)))))) else (none))) else (none)) else ((spec_l9Add.f k a1_0 a1_1 l1_2 a0_1).bind fun bt904 => (some (bt904.1, bt904.2.1, bt904.2.2)))
theorem spec_l9With.mono_l : ∀ k, (∀ y0 y1 y2 y3 y4 y5, LeO (spec_l9With.f k y0 y1 y2 y3 y4 y5) (spec_l9With.f (k + 1) y0 y1 y2 y3 y4 y5))
  | 0 => fun _ _ _ _ _ _ r h => by simp [spec_l9With.f] at h
  | k + 1 => by
    have ih0 := spec_l9With.mono_l k
    · intro y0 y1 y2 y3 y4 y5
      unfold spec_l9With.f
      repeat' first
      | (with_reducible exact ih0 _ _ _ _ _ _)
      | (with_reducible exact spec_l9Add.mono _ _ _ _ _)
      | (with_reducible exact LeO.refl _)
      | (with_reducible exact LeO.none _)
      | (with_reducible refine LeO.ite ?_ ?_)
      | (with_reducible refine LeO.bind ?_ (fun _ => ?_))
      | exact ih0 _ _ _ _ _ _
      | exact spec_l9Add.mono _ _ _ _ _
      | exact LeO.none _
      | refine LeO.ite ?_ ?_
      | refine LeO.bind ?_ (fun _ => ?_)
theorem spec_l9With.mono : ∀ a0 a1 a2 a3 a4 a5 k, LeO (spec_l9With.f k a0 a1 a2 a3 a4 a5) (spec_l9With.f (k + 1) a0 a1 a2 a3 a4 a5) := by
  intro a0 a1 a2 a3 a4 a5 k
  have ih0 := spec_l9With.mono_l k
  exact ih0 a0 a1 a2 a3 a4 a5
def spec_l9With.T3 : Bool × List (List Nat × List Nat) := (true, [([], []), ([0], [0]), ([], []), ([2], [2]), ([3], [3]), ([4], [4]), ([], []), ([5, 6], [5, 6]), ([], []), ([8], [8]), ([9], [9]), ([10], [10]), ([], []), ([11, 12, 7], [11, 12]), ([7, 13], [7, 13]), ([1, 14], [1, 14]), ([15, 13, 0, 1, 2, 3, 4, 5, 6, 7, 8, 9, 10, 11, 12, 13, 14, 15], [15])])
def spec_l9With.B3 : List Nat := [0, 1, 0, 4, 12, 28, 0, 124, 0, 256, 768, 1792, 0, 8188, 16380, 32767, 65535]
theorem spec_l9With.tab3 : rtab .any (opsOf Try.f101 3) = spec_l9With.T3 := by kernel_rfl
theorem spec_l9With.bits3 : waitsOk spec_l9With.T3.2 spec_l9With.B3 = true := by kernel_rfl
set_option maxHeartbeats 8000000 in
set_option maxRecDepth 100000 in
theorem spec_l9With.calls (k : Nat) : ∀ (a0_0 : Bool) (a0_1 : Int) (A0_2 : Option Addr) (c0_2 : Nat) (l0_2 : List (S93)) (a1_0 : Bool) (a1_1 : Int) (A1_2 : Option Addr) (c1_2 : Nat) (l1_2 : List (S93)) (r1 : Bool) (r2 : Int) (r3 : List (S93)) (w : World) (hr0_2 : Kd.C k93 w A0_2 l0_2.length l0_2) (hc0_2 : l0_2.length ≤ c0_2) (hr1_2 : Kd.C k93 w A1_2 l1_2.length l1_2) (hc1_2 : l1_2.length ≤ c1_2) (h : spec_l9With.f k a0_0 a0_1 l0_2 a1_0 a1_1 l1_2 = some (r1, r2, r3)),
    Calls Try.prog 101 #[.agg #[.bool a0_0, .int .i64 a0_1, .slice A0_2 l0_2.length c0_2], .agg #[.bool a1_0, .int .i64 a1_1, .slice A1_2 l1_2.length c1_2]] w fun e w' => ∃ v2_ : Value, e = .returned (.agg #[.bool r1, .int .i64 r2, v2_]) ∧ Kd.N k93 93 w' w.heap.size (fun k_ => (w.heap.size ≤ k_)) v2_ r3 ∧ Below w.heap.size w w' := by
  induction k using Nat.strongRecOn with
  | _ k ih =>
  intro a0_0 a0_1 A0_2 c0_2 l0_2 a1_0 a1_1 A1_2 c1_2 l1_2 r1 r2 r3 w hr0_2 hc0_2 hr1_2 hc1_2 h
  cases k with
  | zero => exact absurd h (by simp [spec_l9With.f])
  | succ k =>
  simp only [spec_l9With.f] at h
  have hu93 := Try.underlying93
  have HR0_2 := ab_ hr0_2
  have HC0_2 := ab_ hc0_2
  clear hr0_2 hc0_2
  have HR1_2 := ab_ hr1_2
  have HC1_2 := ab_ hc1_2
  clear hr1_2 hc1_2
  have HB := ab_ (av_ w.heap.size w)
  have H : (if a0_0 = true then (if 0 < (l0_2.length : Int) then ((spec_l9With.f k ((rd_T93 l0_2 0).f0) ((rd_T93 l0_2 0).f1) ((rd_T93 l0_2 0).f2) a1_0 a1_1 l1_2).bind fun bt890 => (if 1 < (l0_2.length : Int) then ((spec_l9With.f k ((rd_T93 l0_2 1).f0) ((rd_T93 l0_2 1).f1) ((rd_T93 l0_2 1).f2) a1_0 a1_1 l1_2).bind fun bt896 => (some (true, a0_1, (([(⟨bt890.1, bt890.2.1, bt890.2.2⟩ : S93), (⟨bt896.1, bt896.2.1, bt896.2.2⟩ : S93)] : List (S93)))))) else (none))) else (none)) else ((spec_l9Add.f k a1_0 a1_1 l1_2 a0_1).bind fun bt904 => (some (bt904.1, bt904.2.1, bt904.2.2)))) = some (r1, r2, r3) := h
  clear h
  by_cases c3 : a0_0 = true
  · subst c3
    have H1 : (if 0 < (l0_2.length : Int) then ((spec_l9With.f k ((rd_T93 l0_2 0).f0) ((rd_T93 l0_2 0).f1) ((rd_T93 l0_2 0).f2) a1_0 a1_1 l1_2).bind fun bt890 => (if 1 < (l0_2.length : Int) then ((spec_l9With.f k ((rd_T93 l0_2 1).f0) ((rd_T93 l0_2 1).f1) ((rd_T93 l0_2 1).f2) a1_0 a1_1 l1_2).bind fun bt896 => (some (true, a0_1, (([(⟨bt890.1, bt890.2.1, bt890.2.2⟩ : S93), (⟨bt896.1, bt896.2.1, bt896.2.2⟩ : S93)] : List (S93)))))) else (none))) else (none)) = some (r1, r2, r3) := by rw [if_pos rfl] at H; exact H
    clear H
    have H := H1
    clear H1
    by_cases c4 : 0 < (l0_2.length : Int)
    · rw [if_pos c4] at H
      have c4b0 : decide (0 < (l0_2.length : Int)) = true := at_ c4
      have c4b1 : decide (0 < l0_2.length) = true := at_ (by omega)
      clear c4
      replace H := Option.bind_eq_some_iff.mp H
      obtain ⟨⟨t890, t891, t892⟩, A50, H⟩ := H
      replace H : (if 1 < (l0_2.length : Int) then ((spec_l9With.f k ((rd_T93 l0_2 1).f0) ((rd_T93 l0_2 1).f1) ((rd_T93 l0_2 1).f2) a1_0 a1_1 l1_2).bind fun bt896 => (some (true, a0_1, (([(⟨t890, t891, t892⟩ : S93), (⟨bt896.1, bt896.2.1, bt896.2.2⟩ : S93)] : List (S93)))))) else (none)) = some (r1, r2, r3) := H
      have A5 := ab_ A50
      clear A50
      by_cases c6 : 1 < (l0_2.length : Int)
      · rw [if_pos c6] at H
        have c6b0 : decide (1 < (l0_2.length : Int)) = true := at_ c6
        have c6b1 : decide (1 < l0_2.length) = true := at_ (by omega)
        clear c6
        replace H := Option.bind_eq_some_iff.mp H
        obtain ⟨⟨t896, t897, t898⟩, A70, H⟩ := H
        replace H : (some (true, a0_1, (([(⟨t890, t891, t892⟩ : S93), (⟨t896, t897, t898⟩ : S93)] : List (S93))))) = some (r1, r2, r3) := H
        have A7 := ab_ A70
        clear A70
        obtain ⟨y901, hy901⟩ : ∃ y_ : List (S93), y_ = (([(⟨t890, t891, t892⟩ : S93), (⟨t896, t897, t898⟩ : S93)] : List (S93))) := ⟨_, rfl⟩
        replace H : (some (true, a0_1, y901)) = some (r1, r2, r3) := by first | (rw [hy901]; with_reducible exact H) | (have H2_ := (Option.bind_some _ _).symm.trans H; rw [hy901]; with_reducible exact H2_) | (have H2_ := (Option.bind_some _ _).symm.trans H; with_reducible exact H2_) | with_reducible exact H | (rw [hy901]; exact H) | exact H
        have Ny901 := ab_ hy901
        clear hy901
        simp only [Option.some.injEq, Prod.mk.injEq] at H
        obtain ⟨rfl, rfl, rfl⟩ := H
        go_enter Try.func101, Try.ntmps101
        try go_wp2_with (first | ((with_reducible refine gate_dst (N := 2) rfl ?_); refine box_event ?hg (N := 2) ?hd (cs := #[.bool true, .int .i64 a0_1, .slice A0_2 l0_2.length c0_2]) (t := 93) ?hr ?_; (case hd => rfl); (case hg => rfl); (case hr => first | (go_simp; done) | (go_simp; rfl)); intro gb886 hg w8 hbox hb; have n0_ := ab_ (au_ (by repeat (first | (with_reducible first | exact HB.out | apply ai_ | apply ag_ | apply ah_) | exact HB.out)) hb); have n1_ := ab_ (hbox); have n2_ := ab_ ((by rw [hg]; exact (below_size (by repeat (first | (with_reducible first | exact HB.out | apply ai_ | apply ag_ | apply ah_) | exact HB.out))) : w.heap.size ≤ gb886)); have n3_ := ab_ ((by rw [hg]; exact (below_size (by repeat (first | (with_reducible first | exact HB.out | apply ai_ | apply ag_ | apply ah_) | exact HB.out))) : w.heap.size ≤ gb886)); clear HB; have HB := n0_; have BK886 := n1_; have GW886 := n2_; have GE886 := n3_; clear n0_ n1_ n2_ n3_; clear hb hbox hg) | ((with_reducible refine gate_dst (N := 3) rfl ?_); refine box_event ?hg (N := 3) ?hd (cs := #[.bool a1_0, .int .i64 a1_1, .slice A1_2 l1_2.length c1_2]) (t := 93) ?hr ?_; (case hd => rfl); (case hg => rfl); (case hr => first | (go_simp; done) | (go_simp; rfl)); intro gb887 hg w9 hbox hb; have n0_ := ab_ (blk_below (g := gb886) (o := .cells #[.bool true, .int .i64 a0_1, .slice A0_2 l0_2.length c0_2] 93 (0, 0)) (by (with_reducible repeat (first | refine ac_ ?_ _ | refine ae_ ?_ | refine ad_ ?_ _)); exact BK886.out) hb); have n1_ := ab_ (au_ (by repeat (first | (with_reducible first | exact HB.out | apply ai_ | apply ag_ | apply ah_ | refine af_ ?_ GE886.out) | exact HB.out)) hb); have n2_ := ab_ (hbox); have n3_ := ab_ ((by rw [hg]; exact (below_size (by repeat (first | (with_reducible first | exact HB.out | apply ai_ | apply ag_ | apply ah_ | refine af_ ?_ GE886.out) | exact HB.out))) : w.heap.size ≤ gb887)); have n4_ := ab_ ((by rw [hg]; exact (below_size (by repeat (first | (with_reducible first | exact HB.out | apply ai_ | apply ag_ | apply ah_ | refine af_ ?_ GE886.out) | exact HB.out))) : w.heap.size ≤ gb887)); have n5_ := ab_ ((by rw [hg]; exact ak_ (blk_lt (g := gb886) (o := .cells #[.bool true, .int .i64 a0_1, .slice A0_2 l0_2.length c0_2] 93 (0, 0)) (by (with_reducible repeat (first | refine ac_ ?_ _ | refine ae_ ?_ | refine ad_ ?_ _)); exact BK886.out)) : gb886 ≠ gb887)); have n6_ := ab_ ((by rw [hg]; exact Nat.ne_of_gt (blk_lt (g := gb886) (o := .cells #[.bool true, .int .i64 a0_1, .slice A0_2 l0_2.length c0_2] 93 (0, 0)) (by (with_reducible repeat (first | refine ac_ ?_ _ | refine ae_ ?_ | refine ad_ ?_ _)); exact BK886.out)) : gb887 ≠ gb886)); clear BK886; clear HB; have BK886 := n0_; have HB := n1_; have BK887 := n2_; have GW887 := n3_; have GE887 := n4_; have NB886_887 := n5_; have NB887_886 := n6_; clear n0_ n1_ n2_ n3_ n4_ n5_ n6_; clear hb hbox hg) | ((with_reducible refine gate_dst (N := 4) rfl ?_); refine box_event ?hg (N := 4) ?hd (cs := #[.bool false, .int .i64 0, .slice none 0 0]) (t := 93) ?hr ?_; (case hd => rfl); (case hg => rfl); (case hr => first | (go_simp; done) | (go_simp; rfl)); intro gb888 hg w10 hbox hb; have n0_ := ab_ (blk_below (g := gb886) (o := .cells #[.bool true, .int .i64 a0_1, .slice A0_2 l0_2.length c0_2] 93 (0, 0)) (by (with_reducible repeat (first | refine ac_ ?_ _ | refine ae_ ?_ | refine ad_ ?_ _)); exact BK886.out) hb); have n1_ := ab_ (blk_below (g := gb887) (o := .cells #[.bool a1_0, .int .i64 a1_1, .slice A1_2 l1_2.length c1_2] 93 (0, 0)) (by (with_reducible repeat (first | refine ac_ ?_ _ | refine ae_ ?_ | refine ad_ ?_ _)); exact BK887.out) hb); have n2_ := ab_ (au_ (by repeat (first | (with_reducible first | exact HB.out | apply ai_ | apply ag_ | apply ah_ | refine af_ ?_ GE886.out | refine af_ ?_ GE887.out) | exact HB.out)) hb); have n3_ := ab_ (hbox); have n4_ := ab_ ((by rw [hg]; exact (below_size (by repeat (first | (with_reducible first | exact HB.out | apply ai_ | apply ag_ | apply ah_ | refine af_ ?_ GE886.out | refine af_ ?_ GE887.out) | exact HB.out))) : w.heap.size ≤ gb888)); have n5_ := ab_ ((by rw [hg]; exact (below_size (by repeat (first | (with_reducible first | exact HB.out | apply ai_ | apply ag_ | apply ah_ | refine af_ ?_ GE886.out | refine af_ ?_ GE887.out) | exact HB.out))) : w.heap.size ≤ gb888)); have n6_ := ab_ ((by rw [hg]; exact ak_ (blk_lt (g := gb886) (o := .cells #[.bool true, .int .i64 a0_1, .slice A0_2 l0_2.length c0_2] 93 (0, 0)) (by (with_reducible repeat (first | refine ac_ ?_ _ | refine ae_ ?_ | refine ad_ ?_ _)); exact BK886.out)) : gb886 ≠ gb888)); have n7_ := ab_ ((by rw [hg]; exact Nat.ne_of_gt (blk_lt (g := gb886) (o := .cells #[.bool true, .int .i64 a0_1, .slice A0_2 l0_2.length c0_2] 93 (0, 0)) (by (with_reducible repeat (first | refine ac_ ?_ _ | refine ae_ ?_ | refine ad_ ?_ _)); exact BK886.out)) : gb888 ≠ gb886)); have n8_ := ab_ ((by rw [hg]; exact ak_ (blk_lt (g := gb887) (o := .cells #[.bool a1_0, .int .i64 a1_1, .slice A1_2 l1_2.length c1_2] 93 (0, 0)) (by (with_reducible repeat (first | refine ac_ ?_ _ | refine ae_ ?_ | refine ad_ ?_ _)); exact BK887.out)) : gb887 ≠ gb888)); have n9_ := ab_ ((by rw [hg]; exact Nat.ne_of_gt (blk_lt (g := gb887) (o := .cells #[.bool a1_0, .int .i64 a1_1, .slice A1_2 l1_2.length c1_2] 93 (0, 0)) (by (with_reducible repeat (first | refine ac_ ?_ _ | refine ae_ ?_ | refine ad_ ?_ _)); exact BK887.out)) : gb888 ≠ gb887)); clear BK886; clear BK887; clear HB; have BK886 := n0_; have BK887 := n1_; have HB := n2_; have BK888 := n3_; have GW888 := n4_; have GE888 := n5_; have NB886_888 := n6_; have NB888_886 := n7_; have NB887_888 := n8_; have NB888_887 := n9_; clear n0_ n1_ n2_ n3_ n4_ n5_ n6_ n7_ n8_ n9_; clear hb hbox hg; have hnb11 := NB886_887.out; have hnc11 := NB887_886.out; have hnb12 := NB886_888.out; have hnc12 := NB888_886.out; have hcz13_0 : w10.cell? ⟨gb886, 0, none⟩ = some (.bool true) := (an_ BK886.out 0).trans rfl; have hcz13_1 : w10.cell? ⟨gb886, 1, none⟩ = some (.int .i64 a0_1) := (an_ BK886.out 1).trans rfl; have hcz13_2 : w10.cell? ⟨gb886, 2, none⟩ = some (.slice A0_2 l0_2.length c0_2) := (an_ BK886.out 2).trans rfl; have hfz13_0 := am_ BK886.out 0; have hfz13_1 := am_ BK886.out 1; have hfz13_2 := am_ BK886.out 2))
        have n0_ := ab_ (ae_ BK886.out)
        have n1_ := ab_ (ae_ BK887.out)
        have n2_ := ab_ (ae_ BK888.out)
        have n3_ := ab_ (ah_ HB.out)
        clear BK886
        clear BK887
        clear BK888
        clear HB
        have BK886 := n0_
        have BK887 := n1_
        have BK888 := n2_
        have HB := n3_
        clear n0_ n1_ n2_ n3_
        have p889 : 0 ≤ (0 : Int) := (by omega)
        have q889 : 0 < (l0_2.length : Int) := of_decide_eq_true (by first | (with_reducible assumption) | assumption)
        obtain ⟨ad889, A889_2, c889_2, e889, hx889_0, hx889_1, hx889_2, hl889_2, hi889_2⟩ := at_T93 HR0_2.out 0 p889 q889
        have hw889_2 := hx889_2
        (try rw [show ((0 : Int)).toNat = 0 from rfl] at hw889_2)
        (try rw [show 0 * 3 = 0 from rfl] at hw889_2)
        (try rw [Addr.add_zero'] at hw889_2)
        have hw889_1 := hx889_1
        (try rw [show ((0 : Int)).toNat = 0 from rfl] at hw889_1)
        (try rw [show 0 * 3 = 0 from rfl] at hw889_1)
        (try rw [Addr.add_zero'] at hw889_1)
        have hw889_0 := hx889_0
        (try rw [show ((0 : Int)).toNat = 0 from rfl] at hw889_0)
        (try rw [show 0 * 3 = 0 from rfl] at hw889_0)
        (try rw [Addr.add_zero'] at hw889_0)
        cases e889
        have qi889 : (0 < l0_2.length) = True := eq_true (by omega)
        (try rw [show ((0 : Int)).toNat = 0 from rfl] at hx889_0)
        (try rw [show 0 * 3 = 0 from rfl] at hx889_0)
        (try rw [Addr.add_zero'] at hx889_0)
        (try rw [show ((0 : Int)).toNat = 0 from rfl] at hx889_1)
        (try rw [show 0 * 3 = 0 from rfl] at hx889_1)
        (try rw [Addr.add_zero'] at hx889_1)
        (try rw [show ((0 : Int)).toNat = 0 from rfl] at hx889_2)
        (try rw [show 0 * 3 = 0 from rfl] at hx889_2)
        (try rw [Addr.add_zero'] at hx889_2)
        replace hx889_0 := (HB.out.cell (aa_ w _ hx889_0)).trans hx889_0
        replace hx889_1 := (HB.out.cell (aa_ w _ hx889_1)).trans hx889_1
        replace hx889_2 := (HB.out.cell (aa_ w _ hx889_2)).trans hx889_2
        have HR889_2 := ab_ hi889_2
        have HC889_2 := ab_ hl889_2
        clear hi889_2 hl889_2
        replace p889 := eq_true p889
        replace q889 := eq_true q889
        have p895 : 0 ≤ (1 : Int) := (by omega)
        have q895 : 1 < (l0_2.length : Int) := of_decide_eq_true (by first | (with_reducible assumption) | assumption)
        obtain ⟨ad895, A895_2, c895_2, e895, hx895_0, hx895_1, hx895_2, hl895_2, hi895_2⟩ := at_T93 HR0_2.out 1 p895 q895
        have hw895_2 := hx895_2
        (try rw [show ((1 : Int)).toNat = 1 from rfl] at hw895_2)
        (try rw [show 1 * 3 = 3 from rfl] at hw895_2)
        (try simp only [Nat.reduceMul, Nat.reduceEqDiff, Go.Addr.add, ↓reduceIte] at hw895_2)
        have hw895_1 := hx895_1
        (try rw [show ((1 : Int)).toNat = 1 from rfl] at hw895_1)
        (try rw [show 1 * 3 = 3 from rfl] at hw895_1)
        (try simp only [Nat.reduceMul, Nat.reduceEqDiff, Go.Addr.add, ↓reduceIte] at hw895_1)
        have hw895_0 := hx895_0
        (try rw [show ((1 : Int)).toNat = 1 from rfl] at hw895_0)
        (try rw [show 1 * 3 = 3 from rfl] at hw895_0)
        (try simp only [Nat.reduceMul, Nat.reduceEqDiff, Go.Addr.add, ↓reduceIte] at hw895_0)
        obtain rfl : ad889 = ad895 := (by injection e895)
        (try simp only [show (1 : Int).toNat = 1 from rfl, Nat.reduceMul, Nat.reduceEqDiff, Go.Addr.add, ↓reduceIte] at hx895_0)
        (try simp only [show (1 : Int).toNat = 1 from rfl, Nat.reduceMul, Nat.reduceEqDiff, Go.Addr.add, ↓reduceIte] at hx895_1)
        (try simp only [show (1 : Int).toNat = 1 from rfl, Nat.reduceMul, Nat.reduceEqDiff, Go.Addr.add, ↓reduceIte] at hx895_2)
        have qi895 : (1 < l0_2.length) = True := eq_true (by omega)
        (try rw [show ((1 : Int)).toNat = 1 from rfl] at hx895_0)
        (try rw [show 1 * 3 = 3 from rfl] at hx895_0)
        (try rw [show ((1 : Int)).toNat = 1 from rfl] at hx895_1)
        (try rw [show 1 * 3 = 3 from rfl] at hx895_1)
        (try rw [show ((1 : Int)).toNat = 1 from rfl] at hx895_2)
        (try rw [show 1 * 3 = 3 from rfl] at hx895_2)
        replace hx895_0 := (HB.out.cell (aa_ w _ hx895_0)).trans hx895_0
        replace hx895_1 := (HB.out.cell (aa_ w _ hx895_1)).trans hx895_1
        replace hx895_2 := (HB.out.cell (aa_ w _ hx895_2)).trans hx895_2
        have HR895_2 := ab_ hi895_2
        have HC895_2 := ab_ hl895_2
        clear hi895_2 hl895_2
        replace p895 := eq_true p895
        replace q895 := eq_true q895
        refine start_ (n := 17) (S := fun w' => w'.cell? ⟨gb886, 0, none⟩ = some (.bool true) ∧ w'.cell? ⟨gb886, 1, none⟩ = some (.int .i64 a0_1) ∧ w'.cell? ⟨gb886, 2, none⟩ = some (.slice (some ad889) l0_2.length c0_2) ∧ w'.cell? ⟨gb887, 0, none⟩ = some (.bool a1_0) ∧ w'.cell? ⟨gb887, 1, none⟩ = some (.int .i64 a1_1) ∧ w'.cell? ⟨gb887, 2, none⟩ = some (.slice A1_2 l1_2.length c1_2) ∧ w'.cell? ad889 = some (.bool ((rd_T93 l0_2 0).f0)) ∧ w'.cell? ⟨ad889.block, ad889.off + 1, none⟩ = some (.int .i64 ((rd_T93 l0_2 0).f1)) ∧ w'.cell? ⟨ad889.block, ad889.off + 2, none⟩ = some (.slice A889_2 ((rd_T93 l0_2 0).f2).length c889_2) ∧ w'.cell? ⟨ad889.block, ad889.off + 3, none⟩ = some (.bool ((rd_T93 l0_2 1).f0)) ∧ w'.cell? ⟨ad889.block, ad889.off + 3 + 1, none⟩ = some (.int .i64 ((rd_T93 l0_2 1).f1)) ∧ w'.cell? ⟨ad889.block, ad889.off + 3 + 2, none⟩ = some (.slice A895_2 ((rd_T93 l0_2 1).f2).length c895_2)) (ds := []) #[false, false, false, false, false, false, false, false, false, false, false, false, false, false, false, false, false] (by kernel_rfl) rfl rfl ⟨(an_ BK886.out 0).trans rfl, (an_ BK886.out 1).trans rfl, (an_ BK886.out 2).trans rfl, (an_ BK887.out 0).trans rfl, (an_ BK887.out 1).trans rfl, (an_ BK887.out 2).trans rfl, ((HB.out.cell (aa_ w _ hw889_0)).trans hw889_0), ((HB.out.cell (aa_ w _ hw889_1)).trans hw889_1), ((HB.out.cell (aa_ w _ hw889_2)).trans hw889_2), ((HB.out.cell (aa_ w _ hw895_0)).trans hw895_0), ((HB.out.cell (aa_ w _ hw895_1)).trans hw895_1), ((HB.out.cell (aa_ w _ hw895_2)).trans hw895_2)⟩ (fun hHeld => ?_); refine with_tabW spec_l9With.tab3 spec_l9With.bits3 (fun HT_ HW_ => ?_)
        generalize w10.drew = w14 at BK886 BK887 BK888 HB HR889_2 HR895_2 hx889_0 hx889_1 hx889_2 hx895_0 hx895_1 hx895_2 hHeld ⊢
        refine pure_ (i := 0) (N := some 12) (v := ?_) (a' := ?_) #[true, false, false, false, false, false, false, false, false, false, false, false, false, false, false, false, false] rfl rfl (any_of HT_.out (by kernel_rfl)) (fun _ _ _ h => h) (Or.inl ⟨by rfl, ?_⟩) ?_ ?_
        rotate_left
        · intro w'
          go_simp
          with_reducible rfl
        rotate_left
        · simp only [Act.put, List.setIfInBounds_toArray, List.set_cons_zero, List.set_cons_succ, i64_w, i32_w]
          rfl
        refine pure_ (i := 2) (N := some 14) (v := ?_) (a' := ?_) #[true, false, true, false, false, false, false, false, false, false, false, false, false, false, false, false, false] rfl rfl (any_of HT_.out (by kernel_rfl)) (fun _ _ _ h => h) (Or.inl ⟨by rfl, ?_⟩) ?_ ?_
        rotate_left
        · intro w'
          go_simp
          with_reducible rfl
        rotate_left
        · simp only [Act.put, List.setIfInBounds_toArray, List.set_cons_zero, List.set_cons_succ, i64_w, i32_w]
          rfl
        refine pure_ (i := 8) (N := some 20) (v := ?_) (a' := ?_) #[true, false, true, false, false, false, false, false, true, false, false, false, false, false, false, false, false] rfl rfl (any_of HT_.out (by kernel_rfl)) (fun _ _ _ h => h) (Or.inl ⟨by rfl, ?_⟩) ?_ ?_
        rotate_left
        · intro w'
          go_simp
          with_reducible rfl
        rotate_left
        · simp only [Act.put, List.setIfInBounds_toArray, List.set_cons_zero, List.set_cons_succ, i64_w, i32_w]
          rfl
        refine take_ (i := 1) (N := some 13) (v := ?_) (a' := ?_) #[true, true, true, false, false, false, false, false, true, false, false, false, false, false, false, false, false] rfl rfl (take_ofW HT_.out HW_.out (by kernel_rfl)) (fun _ _ _ h => h) (Or.inl ⟨by rfl, ?_⟩) hHeld ?_ ?_
        rotate_left
        · rintro w' ⟨s0, s1, s2, s3, s4, s5, s6, s7, s8, s9, s10, s11⟩
          go_simp
          with_reducible rfl
        rotate_left
        · simp only [Act.put, List.setIfInBounds_toArray, List.set_cons_zero, List.set_cons_succ, i64_w, i32_w]
          rfl
        refine take_ (i := 3) (N := some 15) (v := ?_) (a' := ?_) #[true, true, true, true, false, false, false, false, true, false, false, false, false, false, false, false, false] rfl rfl (take_ofW HT_.out HW_.out (by kernel_rfl)) (fun _ _ _ h => h) (Or.inl ⟨by rfl, ?_⟩) hHeld ?_ ?_
        rotate_left
        · rintro w' ⟨s0, s1, s2, s3, s4, s5, s6, s7, s8, s9, s10, s11⟩
          go_simp
          with_reducible rfl
        rotate_left
        · simp only [Act.put, List.setIfInBounds_toArray, List.set_cons_zero, List.set_cons_succ, i64_w, i32_w]
          rfl
        refine pure_ (i := 4) (N := some 16) (v := ?_) (a' := ?_) #[true, true, true, true, true, false, false, false, true, false, false, false, false, false, false, false, false] rfl rfl (any_of HT_.out (by kernel_rfl)) (fun _ _ _ h => h) (Or.inl ⟨by rfl, ?_⟩) ?_ ?_
        rotate_left
        · intro w'
          go_simp
          with_reducible rfl
        rotate_left
        · simp only [Act.put, List.setIfInBounds_toArray, List.set_cons_zero, List.set_cons_succ, i64_w, i32_w]
          rfl
        refine take_ (i := 5) (N := some 17) (v := ?_) (a' := ?_) #[true, true, true, true, true, true, false, false, true, false, false, false, false, false, false, false, false] rfl rfl (take_ofW HT_.out HW_.out (by kernel_rfl)) (fun _ _ _ h => h) (Or.inl ⟨by rfl, ?_⟩) hHeld ?_ ?_
        rotate_left
        · rintro w' ⟨s0, s1, s2, s3, s4, s5, s6, s7, s8, s9, s10, s11⟩
          go_simp
          with_reducible rfl
        rotate_left
        · simp only [Act.put, List.setIfInBounds_toArray, List.set_cons_zero, List.set_cons_succ, i64_w, i32_w]
          rfl
        refine take_ (i := 6) (N := some 18) (v := ?_) (a' := ?_) #[true, true, true, true, true, true, true, false, true, false, false, false, false, false, false, false, false] rfl rfl (take_ofW HT_.out HW_.out (by kernel_rfl)) (fun _ _ _ h => h) (Or.inl ⟨by rfl, ?_⟩) hHeld ?_ ?_
        rotate_left
        · rintro w' ⟨s0, s1, s2, s3, s4, s5, s6, s7, s8, s9, s10, s11⟩
          go_simp
          with_reducible rfl
        rotate_left
        · simp only [Act.put, List.setIfInBounds_toArray, List.set_cons_zero, List.set_cons_succ, i64_w, i32_w]
          rfl
        refine take_ (i := 9) (N := some 21) (v := ?_) (a' := ?_) #[true, true, true, true, true, true, true, false, true, true, false, false, false, false, false, false, false] rfl rfl (take_ofW HT_.out HW_.out (by kernel_rfl)) (fun _ _ _ h => h) (Or.inl ⟨by rfl, ?_⟩) hHeld ?_ ?_
        rotate_left
        · rintro w' ⟨s0, s1, s2, s3, s4, s5, s6, s7, s8, s9, s10, s11⟩
          go_simp
          with_reducible rfl
        rotate_left
        · simp only [Act.put, List.setIfInBounds_toArray, List.set_cons_zero, List.set_cons_succ, i64_w, i32_w]
          rfl
        refine pure_ (i := 10) (N := some 22) (v := ?_) (a' := ?_) #[true, true, true, true, true, true, true, false, true, true, true, false, false, false, false, false, false] rfl rfl (any_of HT_.out (by kernel_rfl)) (fun _ _ _ h => h) (Or.inl ⟨by rfl, ?_⟩) ?_ ?_
        rotate_left
        · intro w'
          go_simp
          with_reducible rfl
        rotate_left
        · simp only [Act.put, List.setIfInBounds_toArray, List.set_cons_zero, List.set_cons_succ, i64_w, i32_w]
          rfl
        refine take_ (i := 11) (N := some 23) (v := ?_) (a' := ?_) #[true, true, true, true, true, true, true, false, true, true, true, true, false, false, false, false, false] rfl rfl (take_ofW HT_.out HW_.out (by kernel_rfl)) (fun _ _ _ h => h) (Or.inl ⟨by rfl, ?_⟩) hHeld ?_ ?_
        rotate_left
        · rintro w' ⟨s0, s1, s2, s3, s4, s5, s6, s7, s8, s9, s10, s11⟩
          go_simp
          with_reducible rfl
        rotate_left
        · simp only [Act.put, List.setIfInBounds_toArray, List.set_cons_zero, List.set_cons_succ, i64_w, i32_w]
          rfl
        refine take_ (i := 12) (N := some 24) (v := ?_) (a' := ?_) #[true, true, true, true, true, true, true, false, true, true, true, true, true, false, false, false, false] rfl rfl (take_ofW HT_.out HW_.out (by kernel_rfl)) (fun _ _ _ h => h) (Or.inl ⟨by rfl, ?_⟩) hHeld ?_ ?_
        rotate_left
        · rintro w' ⟨s0, s1, s2, s3, s4, s5, s6, s7, s8, s9, s10, s11⟩
          go_simp
          with_reducible rfl
        rotate_left
        · simp only [Act.put, List.setIfInBounds_toArray, List.set_cons_zero, List.set_cons_succ, i64_w, i32_w]
          rfl
        refine one_ (i := 7) (N := some 19) #[true, true, true, true, true, true, true, true, true, true, true, true, true, false, false, false, false] rfl rfl (one_of HT_.out (by kernel_rfl)) (by decide) (fun K hK => ?_)
        refine goes_ Try.func101 (by kernel_rfl) rfl #[.agg #[.bool ((rd_T93 l0_2 0).f0), .int .i64 ((rd_T93 l0_2 0).f1), .slice A889_2 ((rd_T93 l0_2 0).f2).length c889_2], .agg #[.bool a1_0, .int .i64 a1_1, .slice A1_2 l1_2.length c1_2]] (by rfl) rfl rfl (by (try simp only [List.map_toArray, List.map_cons, List.map_nil]); first | done | rfl | (simp only [List.length_drop, List.length_take]; rfl)) ?_
        with_reducible refine (ih k (by omega) ((rd_T93 l0_2 0).f0) ((rd_T93 l0_2 0).f1) _ _ ((rd_T93 l0_2 0).f2) a1_0 a1_1 _ _ l1_2 t890 t891 t892 _ ?side1 ?side2 ?side3 ?side4 A5.out).mono ?_
        (case side1 => repeat (first | exact (Kd.C_below HR889_2.out HB.out) | (with_reducible refine ar_ ?_ _) | (with_reducible refine as_ ?_ _) | (with_reducible refine Kd.C_drew ?_)))
        (case side2 => exact HC889_2.out)
        (case side3 => repeat (first | exact (Kd.C_below HR1_2.out HB.out) | (with_reducible refine ar_ ?_ _) | (with_reducible refine as_ ?_ _) | (with_reducible refine Kd.C_drew ?_)))
        (case side4 => exact HC1_2.out)
        rintro e w15 ⟨v893, rfl, ho0, hb⟩
        refine ⟨_, rfl, ?_⟩
        have n0_ := ab_ (Kd.N_lower (Kd.N_mono (ok' := fun k_ => (w.heap.size ≤ k_) ∧ k_ ≠ gb886 ∧ k_ ≠ gb887 ∧ k_ ≠ gb888) ho0 (fun k_ hk_ => ⟨(Nat.le_trans (below_size (by repeat (first | (with_reducible first | exact HB.out | apply ai_ | apply ag_ | apply ah_ | refine af_ ?_ GE886.out | refine af_ ?_ GE887.out | refine af_ ?_ GE888.out) | exact HB.out))) hk_), (Kd.freshB (g := gb886) (o := .cells #[.bool true, .int .i64 a0_1, .slice (some ad889) l0_2.length c0_2] 93 (0, 0)) (by (with_reducible repeat (first | refine ac_ ?_ _ | refine ae_ ?_ | refine ad_ ?_ _)); exact BK886.out) k_ hk_), (Kd.freshB (g := gb887) (o := .cells #[.bool a1_0, .int .i64 a1_1, .slice A1_2 l1_2.length c1_2] 93 (0, 0)) (by (with_reducible repeat (first | refine ac_ ?_ _ | refine ae_ ?_ | refine ad_ ?_ _)); exact BK887.out) k_ hk_), (Kd.freshB (g := gb888) (o := .cells #[.bool false, .int .i64 0, .slice none 0 0] 93 (0, 0)) (by (with_reducible repeat (first | refine ac_ ?_ _ | refine ae_ ?_ | refine ad_ ?_ _)); exact BK888.out) k_ hk_)⟩)) (below_size (by repeat (first | (with_reducible first | exact HB.out | apply ai_ | apply ag_ | apply ah_ | refine af_ ?_ GE886.out | refine af_ ?_ GE887.out | refine af_ ?_ GE888.out) | exact HB.out))))
        have n1_ := ab_ (blk_below (g := gb886) (o := .cells #[.bool true, .int .i64 a0_1, .slice (some ad889) l0_2.length c0_2] 93 (0, 0)) (by (with_reducible repeat (first | refine ac_ ?_ _ | refine ae_ ?_ | refine ad_ ?_ _)); exact BK886.out) hb)
        have n2_ := ab_ (blk_below (g := gb887) (o := .cells #[.bool a1_0, .int .i64 a1_1, .slice A1_2 l1_2.length c1_2] 93 (0, 0)) (by (with_reducible repeat (first | refine ac_ ?_ _ | refine ae_ ?_ | refine ad_ ?_ _)); exact BK887.out) hb)
        have n3_ := ab_ (blk_below (g := gb888) (o := .cells #[.bool false, .int .i64 0, .slice none 0 0] 93 (0, 0)) (by (with_reducible repeat (first | refine ac_ ?_ _ | refine ae_ ?_ | refine ad_ ?_ _)); exact BK888.out) hb)
        have n4_ := ab_ (au_ (by repeat (first | (with_reducible first | exact HB.out | apply ai_ | apply ag_ | apply ah_ | refine af_ ?_ GE886.out | refine af_ ?_ GE887.out | refine af_ ?_ GE888.out) | exact HB.out)) hb)
        clear BK886
        clear BK887
        clear BK888
        clear HB
        have HO894 := n0_
        have BK886 := n1_
        have BK887 := n2_
        have BK888 := n3_
        have HB := n4_
        clear n0_ n1_ n2_ n3_ n4_
        (try clear hb)
        (try clear hb2)
        (try clear hk)
        (try clear hi)
        (try clear ho0)
        refine hK.out _ _ ⟨(an_ BK886.out 0).trans rfl, (an_ BK886.out 1).trans rfl, (an_ BK886.out 2).trans rfl, (an_ BK887.out 0).trans rfl, (an_ BK887.out 1).trans rfl, (an_ BK887.out 2).trans rfl, ((HB.out.cell (aa_ w _ hw889_0)).trans hw889_0), ((HB.out.cell (aa_ w _ hw889_1)).trans hw889_1), ((HB.out.cell (aa_ w _ hw889_2)).trans hw889_2), ((HB.out.cell (aa_ w _ hw895_0)).trans hw895_0), ((HB.out.cell (aa_ w _ hw895_1)).trans hw895_1), ((HB.out.cell (aa_ w _ hw895_2)).trans hw895_2)⟩ (fun hHeld => ?_)
        clear hK K
        refine norm_ (a' := ?_) ?_ ?_
        rotate_left
        · show Act.put _ (some 19) _ = _
          simp only [Act.put, List.setIfInBounds_toArray, List.set_cons_zero, List.set_cons_succ, i64_w, i32_w]
          rfl
        refine one_ (i := 13) (N := some 25) #[true, true, true, true, true, true, true, true, true, true, true, true, true, true, false, false, false] rfl rfl (one_of HT_.out (by kernel_rfl)) (by decide) (fun K hK => ?_)
        refine goes_ Try.func101 (by kernel_rfl) rfl #[.agg #[.bool ((rd_T93 l0_2 1).f0), .int .i64 ((rd_T93 l0_2 1).f1), .slice A895_2 ((rd_T93 l0_2 1).f2).length c895_2], .agg #[.bool a1_0, .int .i64 a1_1, .slice A1_2 l1_2.length c1_2]] (by rfl) rfl rfl (by (try simp only [List.map_toArray, List.map_cons, List.map_nil]); first | done | rfl | (simp only [List.length_drop, List.length_take]; rfl)) ?_
        with_reducible refine (ih k (by omega) ((rd_T93 l0_2 1).f0) ((rd_T93 l0_2 1).f1) _ _ ((rd_T93 l0_2 1).f2) a1_0 a1_1 _ _ l1_2 t896 t897 t898 _ ?side1 ?side2 ?side3 ?side4 A7.out).mono ?_
        (case side1 => repeat (first | exact (Kd.C_below HR895_2.out HB.out) | (with_reducible refine ar_ ?_ _) | (with_reducible refine as_ ?_ _) | (with_reducible refine Kd.C_drew ?_)))
        (case side2 => exact HC895_2.out)
        (case side3 => repeat (first | exact (Kd.C_below HR1_2.out HB.out) | (with_reducible refine ar_ ?_ _) | (with_reducible refine as_ ?_ _) | (with_reducible refine Kd.C_drew ?_)))
        (case side4 => exact HC1_2.out)
        rintro e w16 ⟨v899, rfl, ho0, hb⟩
        refine ⟨_, rfl, ?_⟩
        have n0_ := ab_ (Kd.N_elder' (by (with_reducible repeat (first | apply Kd.N_alloc | apply Kd.N_drewN | apply Kd.N_drew)); exact HO894.out) (Kd.N_base ho0) hb)
        have n1_ := ab_ (Kd.N_lower (Kd.N_mono (ok' := fun k_ => (w.heap.size ≤ k_) ∧ some k_ ≠ (v893 : Value).ownBlock ∧ k_ ≠ gb886 ∧ k_ ≠ gb887 ∧ k_ ≠ gb888) ho0 (fun k_ hk_ => ⟨(Nat.le_trans (below_size (by repeat (first | (with_reducible first | exact HB.out | apply ai_ | apply ag_ | apply ah_ | refine af_ ?_ GE886.out | refine af_ ?_ GE887.out | refine af_ ?_ GE888.out) | exact HB.out))) hk_), (Kd.fresh' (Kd.N_lt (by (with_reducible repeat (first | apply Kd.N_alloc | apply Kd.N_drewN | apply Kd.N_drew)); exact HO894.out)) k_ hk_), (Kd.freshB (g := gb886) (o := .cells #[.bool true, .int .i64 a0_1, .slice (some ad889) l0_2.length c0_2] 93 (0, 0)) (by (with_reducible repeat (first | refine ac_ ?_ _ | refine ae_ ?_ | refine ad_ ?_ _)); exact BK886.out) k_ hk_), (Kd.freshB (g := gb887) (o := .cells #[.bool a1_0, .int .i64 a1_1, .slice A1_2 l1_2.length c1_2] 93 (0, 0)) (by (with_reducible repeat (first | refine ac_ ?_ _ | refine ae_ ?_ | refine ad_ ?_ _)); exact BK887.out) k_ hk_), (Kd.freshB (g := gb888) (o := .cells #[.bool false, .int .i64 0, .slice none 0 0] 93 (0, 0)) (by (with_reducible repeat (first | refine ac_ ?_ _ | refine ae_ ?_ | refine ad_ ?_ _)); exact BK888.out) k_ hk_)⟩)) (below_size (by repeat (first | (with_reducible first | exact HB.out | apply ai_ | apply ag_ | apply ah_ | refine af_ ?_ GE886.out | refine af_ ?_ GE887.out | refine af_ ?_ GE888.out) | exact HB.out))))
        have n2_ := ab_ (blk_below (g := gb886) (o := .cells #[.bool true, .int .i64 a0_1, .slice (some ad889) l0_2.length c0_2] 93 (0, 0)) (by (with_reducible repeat (first | refine ac_ ?_ _ | refine ae_ ?_ | refine ad_ ?_ _)); exact BK886.out) hb)
        have n3_ := ab_ (blk_below (g := gb887) (o := .cells #[.bool a1_0, .int .i64 a1_1, .slice A1_2 l1_2.length c1_2] 93 (0, 0)) (by (with_reducible repeat (first | refine ac_ ?_ _ | refine ae_ ?_ | refine ad_ ?_ _)); exact BK887.out) hb)
        have n4_ := ab_ (blk_below (g := gb888) (o := .cells #[.bool false, .int .i64 0, .slice none 0 0] 93 (0, 0)) (by (with_reducible repeat (first | refine ac_ ?_ _ | refine ae_ ?_ | refine ad_ ?_ _)); exact BK888.out) hb)
        have n5_ := ab_ (au_ (by repeat (first | (with_reducible first | exact HB.out | apply ai_ | apply ag_ | apply ah_ | refine af_ ?_ GE886.out | refine af_ ?_ GE887.out | refine af_ ?_ GE888.out) | exact HB.out)) hb)
        clear HO894
        clear BK886
        clear BK887
        clear BK888
        clear HB
        have HO894 := n0_
        have HO900 := n1_
        have BK886 := n2_
        have BK887 := n3_
        have BK888 := n4_
        have HB := n5_
        clear n0_ n1_ n2_ n3_ n4_ n5_
        (try clear hb)
        (try clear hb2)
        (try clear hk)
        (try clear hi)
        (try clear ho0)
        obtain ⟨Ao17, co17, eo17⟩ := Kd.N_slice HO894.out
        (first | subst eo17 | (injection eo17 with f1_ f2_ f3_; have f4_ := f1_.symm; have f5_ := f3_.symm; clear f1_ f2_ f3_; subst f4_; subst f5_))
        obtain ⟨Ao18, co18, eo18⟩ := Kd.N_slice HO900.out
        (first | subst eo18 | (injection eo18 with f1_ f2_ f3_; have f4_ := f1_.symm; have f5_ := f3_.symm; clear f1_ f2_ f3_; subst f4_; subst f5_))
        refine hK.out _ _ ⟨(an_ BK886.out 0).trans rfl, (an_ BK886.out 1).trans rfl, (an_ BK886.out 2).trans rfl, (an_ BK887.out 0).trans rfl, (an_ BK887.out 1).trans rfl, (an_ BK887.out 2).trans rfl, ((HB.out.cell (aa_ w _ hw889_0)).trans hw889_0), ((HB.out.cell (aa_ w _ hw889_1)).trans hw889_1), ((HB.out.cell (aa_ w _ hw889_2)).trans hw889_2), ((HB.out.cell (aa_ w _ hw895_0)).trans hw895_0), ((HB.out.cell (aa_ w _ hw895_1)).trans hw895_1), ((HB.out.cell (aa_ w _ hw895_2)).trans hw895_2)⟩ (fun hHeld => ?_)
        clear hK K
        refine norm_ (a' := ?_) ?_ ?_
        rotate_left
        · show Act.put _ (some 25) _ = _
          simp only [Act.put, List.setIfInBounds_toArray, List.set_cons_zero, List.set_cons_succ, i64_w, i32_w]
          rfl
        refine one_ (i := 14) (N := some 26) #[true, true, true, true, true, true, true, true, true, true, true, true, true, true, true, false, false] rfl rfl (one_of HT_.out (by kernel_rfl)) (by decide) (fun K hK => ?_)
        refine Kd.N_lit_step k93 _ 93 ?hg (N' := 26) ?hd (xs := ([(⟨t890, t891, t892⟩ : S93), (⟨t896, t897, t898⟩ : S93)] : List (S93))) (inner := [.bool t890, .int .i64 t891, .slice Ao17 t892.length co17, .bool t896, .int .i64 t897, .slice Ao18 t898.length co18]) (ok := (fun k_ => (w.heap.size ≤ k_) ∧ k_ ≠ gb886 ∧ k_ ≠ gb887 ∧ k_ ≠ gb888)) (okp := (fun k_ => (w.heap.size ≤ k_) ∧ k_ ≠ gb886 ∧ k_ ≠ gb887 ∧ k_ ≠ gb888)) ?hr ?hp (fun _ hk => hk) ((show ∀ k_, w16.heap.size ≤ k_ → (fun k_ => (w.heap.size ≤ k_) ∧ k_ ≠ gb886 ∧ k_ ≠ gb887 ∧ k_ ≠ gb888) k_ from fun k_ hk => ⟨(Nat.le_trans (below_size (by repeat (first | (with_reducible first | exact HB.out | apply ai_ | apply ag_ | apply ah_ | refine af_ ?_ GE886.out | refine af_ ?_ GE887.out | refine af_ ?_ GE888.out) | exact HB.out))) hk), Kd.freshB (g := gb886) (o := .cells #[.bool true, .int .i64 a0_1, .slice (some ad889) l0_2.length c0_2] 93 (0, 0)) (by (with_reducible repeat (first | refine ac_ ?_ _ | refine ae_ ?_ | refine ad_ ?_ _)); exact BK886.out) k_ hk, Kd.freshB (g := gb887) (o := .cells #[.bool a1_0, .int .i64 a1_1, .slice A1_2 l1_2.length c1_2] 93 (0, 0)) (by (with_reducible repeat (first | refine ac_ ?_ _ | refine ae_ ?_ | refine ad_ ?_ _)); exact BK887.out) k_ hk, Kd.freshB (g := gb888) (o := .cells #[.bool false, .int .i64 0, .slice none 0 0] 93 (0, 0)) (by (with_reducible repeat (first | refine ac_ ?_ _ | refine ae_ ?_ | refine ad_ ?_ _)); exact BK888.out) k_ hk⟩) _ (Nat.le_refl _)) (av_ _ _) (Nat.le_refl _) (by simp) ?_; (case hd => rfl); (case hg => rfl); (case hr => first | (go_simp; done) | (go_simp; rfl)); (case hp => exact (Reps.c3 (show Kd.FK k93 _ _ (⟨t890, t891, t892⟩ : S93) [.bool t890, .int .i64 t891, .slice Ao17 t892.length co17] from (k93_mkF _ _ (⟨t890, t891, t892⟩ : S93) (Kd.N_reads' (Kd.N_mono (ok' := (fun k_ => (w.heap.size ≤ k_) ∧ k_ ≠ gb886 ∧ k_ ≠ gb887 ∧ k_ ≠ gb888)) (HO894.out) (fun k_ hk => ⟨hk.1.1, ⟨hk.1.2.1, ⟨hk.1.2.2.1, hk.1.2.2.2⟩⟩⟩))).2.1 (Kd.N_F (Kd.N_mono (ok' := (fun k_ => (w.heap.size ≤ k_) ∧ k_ ≠ gb886 ∧ k_ ≠ gb887 ∧ k_ ≠ gb888)) (HO894.out) (fun k_ hk => ⟨hk.1.1, ⟨hk.1.2.1, ⟨hk.1.2.2.1, hk.1.2.2.2⟩⟩⟩))))) (Reps.c3 (show Kd.FK k93 _ _ (⟨t896, t897, t898⟩ : S93) [.bool t896, .int .i64 t897, .slice Ao18 t898.length co18] from (k93_mkF _ _ (⟨t896, t897, t898⟩ : S93) (Kd.N_reads' (Kd.N_mono (ok' := (fun k_ => (w.heap.size ≤ k_) ∧ k_ ≠ gb886 ∧ k_ ≠ gb887 ∧ k_ ≠ gb888)) (HO900.out) (fun k_ hk => ⟨hk.1, ⟨hk.2.2.1, ⟨hk.2.2.2.1, hk.2.2.2.2⟩⟩⟩))).2.1 (Kd.N_F (Kd.N_mono (ok' := (fun k_ => (w.heap.size ≤ k_) ∧ k_ ≠ gb886 ∧ k_ ≠ gb887 ∧ k_ ≠ gb888)) (HO900.out) (fun k_ hk => ⟨hk.1, ⟨hk.2.2.1, ⟨hk.2.2.2.1, hk.2.2.2.2⟩⟩⟩))))) (Reps.none _ _))))
        intro v902 w19 ho20 hb hg_ hnew_
        clear hg_ hnew_
        (first | rw [← Ny901.out] at ho20 | (simp only [Int.reduceToNat] at ho20; rw [← Ny901.out] at ho20))
        have n0_ := ab_ (Kd.N_lower ho20 (below_size (by repeat (first | (with_reducible first | exact HB.out | apply ai_ | apply ag_ | apply ah_ | refine af_ ?_ GE886.out | refine af_ ?_ GE887.out | refine af_ ?_ GE888.out) | exact HB.out))))
        have n1_ := ab_ (blk_below (g := gb886) (o := .cells #[.bool true, .int .i64 a0_1, .slice (some ad889) l0_2.length c0_2] 93 (0, 0)) (by (with_reducible repeat (first | refine ac_ ?_ _ | refine ae_ ?_ | refine ad_ ?_ _)); exact BK886.out) hb)
        have n2_ := ab_ (blk_below (g := gb887) (o := .cells #[.bool a1_0, .int .i64 a1_1, .slice A1_2 l1_2.length c1_2] 93 (0, 0)) (by (with_reducible repeat (first | refine ac_ ?_ _ | refine ae_ ?_ | refine ad_ ?_ _)); exact BK887.out) hb)
        have n3_ := ab_ (blk_below (g := gb888) (o := .cells #[.bool false, .int .i64 0, .slice none 0 0] 93 (0, 0)) (by (with_reducible repeat (first | refine ac_ ?_ _ | refine ae_ ?_ | refine ad_ ?_ _)); exact BK888.out) hb)
        have n4_ := ab_ (au_ (by repeat (first | (with_reducible first | exact HB.out | apply ai_ | apply ag_ | apply ah_ | refine af_ ?_ GE886.out | refine af_ ?_ GE887.out | refine af_ ?_ GE888.out) | exact HB.out)) hb)
        clear BK886
        clear BK887
        clear BK888
        clear HB
        clear HO894
        clear HO900
        have HO903 := n0_
        have BK886 := n1_
        have BK887 := n2_
        have BK888 := n3_
        have HB := n4_
        clear n0_ n1_ n2_ n3_ n4_
        clear hb ho20
        obtain ⟨Ao21, co21, eo21⟩ := Kd.N_slice HO903.out
        (first | subst eo21 | (injection eo21 with f1_ f2_ f3_; have f4_ := f1_.symm; have f5_ := f3_.symm; clear f1_ f2_ f3_; subst f4_; subst f5_))
        refine hK.out _ _ ⟨(an_ BK886.out 0).trans rfl, (an_ BK886.out 1).trans rfl, (an_ BK886.out 2).trans rfl, (an_ BK887.out 0).trans rfl, (an_ BK887.out 1).trans rfl, (an_ BK887.out 2).trans rfl, ((HB.out.cell (aa_ w _ hw889_0)).trans hw889_0), ((HB.out.cell (aa_ w _ hw889_1)).trans hw889_1), ((HB.out.cell (aa_ w _ hw889_2)).trans hw889_2), ((HB.out.cell (aa_ w _ hw895_0)).trans hw895_0), ((HB.out.cell (aa_ w _ hw895_1)).trans hw895_1), ((HB.out.cell (aa_ w _ hw895_2)).trans hw895_2)⟩ (fun hHeld => ?_)
        clear hK K
        refine norm_ (a' := ?_) ?_ ?_
        rotate_left
        · show Act.put _ (some 26) _ = _
          simp only [Act.put, List.setIfInBounds_toArray, List.set_cons_zero, List.set_cons_succ, i64_w, i32_w]
          rfl
        refine pure_ (i := 15) (N := some 27) (v := ?_) (a' := ?_) #[true, true, true, true, true, true, true, true, true, true, true, true, true, true, true, true, false] rfl rfl (any_of HT_.out (by kernel_rfl)) (fun _ _ _ h => h) (Or.inl ⟨by rfl, ?_⟩) ?_ ?_
        rotate_left
        · intro w'
          go_simp
          with_reducible rfl
        rotate_left
        · simp only [Act.put, List.setIfInBounds_toArray, List.set_cons_zero, List.set_cons_succ, i64_w, i32_w]
          rfl
        refine one_ (i := 16) (N := none) #[true, true, true, true, true, true, true, true, true, true, true, true, true, true, true, true, true] rfl rfl (one_of HT_.out (by kernel_rfl)) (by decide) (fun K hK => ?_)
        have hs22 : w19.cell? ⟨gb888, 0, none⟩ = some (.bool false) := (an_ BK888.out 0).trans rfl
        have hfs22 := am_ BK888.out 0
        have hns22_0 := NB886_888.out
        have hns22_1 := NB887_888.out
        have hms22_0 := NB888_886.out
        have hms22_1 := NB888_887.out
        have hs23 : w19.cell? ⟨gb888, 1, none⟩ = some (.int .i64 0) := (an_ BK888.out 1).trans rfl
        have hfs23 := am_ BK888.out 1
        have hns23_0 := NB886_888.out
        have hns23_1 := NB887_888.out
        have hms23_0 := NB888_886.out
        have hms23_1 := NB888_887.out
        have hs24 : w19.cell? ⟨gb888, 2, none⟩ = some (.slice none 0 0) := (an_ BK888.out 2).trans rfl
        have hfs24 := am_ BK888.out 2
        have hns24_0 := NB886_888.out
        have hns24_1 := NB887_888.out
        have hms24_0 := NB888_886.out
        have hms24_1 := NB888_887.out
        refine skip_ (w1 := ?_) (by rfl) rfl ?_ ?_
        rotate_left
        · go_simp
          rfl
        refine hK.out _ _ ⟨((cw_ (p := ⟨gb888, _, none⟩) NB886_888.out _).trans (((cw_ (p := ⟨gb888, _, none⟩) NB886_888.out _).trans (((cw_ (p := ⟨gb888, _, none⟩) NB886_888.out _).trans (hHeld.1)))))), ((cw_ (p := ⟨gb888, _, none⟩) NB886_888.out _).trans (((cw_ (p := ⟨gb888, _, none⟩) NB886_888.out _).trans (((cw_ (p := ⟨gb888, _, none⟩) NB886_888.out _).trans (hHeld.2.1)))))), ((cw_ (p := ⟨gb888, _, none⟩) NB886_888.out _).trans (((cw_ (p := ⟨gb888, _, none⟩) NB886_888.out _).trans (((cw_ (p := ⟨gb888, _, none⟩) NB886_888.out _).trans (hHeld.2.2.1)))))), ((cw_ (p := ⟨gb888, _, none⟩) NB887_888.out _).trans (((cw_ (p := ⟨gb888, _, none⟩) NB887_888.out _).trans (((cw_ (p := ⟨gb888, _, none⟩) NB887_888.out _).trans (hHeld.2.2.2.1)))))), ((cw_ (p := ⟨gb888, _, none⟩) NB887_888.out _).trans (((cw_ (p := ⟨gb888, _, none⟩) NB887_888.out _).trans (((cw_ (p := ⟨gb888, _, none⟩) NB887_888.out _).trans (hHeld.2.2.2.2.1)))))), ((cw_ (p := ⟨gb888, _, none⟩) NB887_888.out _).trans (((cw_ (p := ⟨gb888, _, none⟩) NB887_888.out _).trans (((cw_ (p := ⟨gb888, _, none⟩) NB887_888.out _).trans (hHeld.2.2.2.2.2.1)))))), ((cw_ (p := ⟨gb888, _, none⟩) (by first | exact ak_ (aj_ (by have := aa_ _ _ hw889_0; first | rwa [al_] at this | exact this) GW888.out) | (rw [al_]; exact ak_ (aj_ (by have := aa_ _ _ hw889_0; first | rwa [al_] at this | exact this) GW888.out)) | (show (Addr.add _ _).block ≠ _; rw [al_]; exact ak_ (aj_ (by have := aa_ _ _ hw889_0; first | rwa [al_] at this | exact this) GW888.out)) | (dsimp only; exact ak_ (aj_ (by have := aa_ _ _ hw889_0; first | rwa [al_] at this | exact this) GW888.out))) _).trans (((cw_ (p := ⟨gb888, _, none⟩) (by first | exact ak_ (aj_ (by have := aa_ _ _ hw889_0; first | rwa [al_] at this | exact this) GW888.out) | (rw [al_]; exact ak_ (aj_ (by have := aa_ _ _ hw889_0; first | rwa [al_] at this | exact this) GW888.out)) | (show (Addr.add _ _).block ≠ _; rw [al_]; exact ak_ (aj_ (by have := aa_ _ _ hw889_0; first | rwa [al_] at this | exact this) GW888.out)) | (dsimp only; exact ak_ (aj_ (by have := aa_ _ _ hw889_0; first | rwa [al_] at this | exact this) GW888.out))) _).trans (((cw_ (p := ⟨gb888, _, none⟩) (by first | exact ak_ (aj_ (by have := aa_ _ _ hw889_0; first | rwa [al_] at this | exact this) GW888.out) | (rw [al_]; exact ak_ (aj_ (by have := aa_ _ _ hw889_0; first | rwa [al_] at this | exact this) GW888.out)) | (show (Addr.add _ _).block ≠ _; rw [al_]; exact ak_ (aj_ (by have := aa_ _ _ hw889_0; first | rwa [al_] at this | exact this) GW888.out)) | (dsimp only; exact ak_ (aj_ (by have := aa_ _ _ hw889_0; first | rwa [al_] at this | exact this) GW888.out))) _).trans (hHeld.2.2.2.2.2.2.1)))))), ((cw_ (p := ⟨gb888, _, none⟩) (by first | exact ak_ (aj_ (by have := aa_ _ _ hw889_1; first | rwa [al_] at this | exact this) GW888.out) | (rw [al_]; exact ak_ (aj_ (by have := aa_ _ _ hw889_1; first | rwa [al_] at this | exact this) GW888.out)) | (show (Addr.add _ _).block ≠ _; rw [al_]; exact ak_ (aj_ (by have := aa_ _ _ hw889_1; first | rwa [al_] at this | exact this) GW888.out)) | (dsimp only; exact ak_ (aj_ (by have := aa_ _ _ hw889_1; first | rwa [al_] at this | exact this) GW888.out))) _).trans (((cw_ (p := ⟨gb888, _, none⟩) (by first | exact ak_ (aj_ (by have := aa_ _ _ hw889_1; first | rwa [al_] at this | exact this) GW888.out) | (rw [al_]; exact ak_ (aj_ (by have := aa_ _ _ hw889_1; first | rwa [al_] at this | exact this) GW888.out)) | (show (Addr.add _ _).block ≠ _; rw [al_]; exact ak_ (aj_ (by have := aa_ _ _ hw889_1; first | rwa [al_] at this | exact this) GW888.out)) | (dsimp only; exact ak_ (aj_ (by have := aa_ _ _ hw889_1; first | rwa [al_] at this | exact this) GW888.out))) _).trans (((cw_ (p := ⟨gb888, _, none⟩) (by first | exact ak_ (aj_ (by have := aa_ _ _ hw889_1; first | rwa [al_] at this | exact this) GW888.out) | (rw [al_]; exact ak_ (aj_ (by have := aa_ _ _ hw889_1; first | rwa [al_] at this | exact this) GW888.out)) | (show (Addr.add _ _).block ≠ _; rw [al_]; exact ak_ (aj_ (by have := aa_ _ _ hw889_1; first | rwa [al_] at this | exact this) GW888.out)) | (dsimp only; exact ak_ (aj_ (by have := aa_ _ _ hw889_1; first | rwa [al_] at this | exact this) GW888.out))) _).trans (hHeld.2.2.2.2.2.2.2.1)))))), ((cw_ (p := ⟨gb888, _, none⟩) (by first | exact ak_ (aj_ (by have := aa_ _ _ hw889_2; first | rwa [al_] at this | exact this) GW888.out) | (rw [al_]; exact ak_ (aj_ (by have := aa_ _ _ hw889_2; first | rwa [al_] at this | exact this) GW888.out)) | (show (Addr.add _ _).block ≠ _; rw [al_]; exact ak_ (aj_ (by have := aa_ _ _ hw889_2; first | rwa [al_] at this | exact this) GW888.out)) | (dsimp only; exact ak_ (aj_ (by have := aa_ _ _ hw889_2; first | rwa [al_] at this | exact this) GW888.out))) _).trans (((cw_ (p := ⟨gb888, _, none⟩) (by first | exact ak_ (aj_ (by have := aa_ _ _ hw889_2; first | rwa [al_] at this | exact this) GW888.out) | (rw [al_]; exact ak_ (aj_ (by have := aa_ _ _ hw889_2; first | rwa [al_] at this | exact this) GW888.out)) | (show (Addr.add _ _).block ≠ _; rw [al_]; exact ak_ (aj_ (by have := aa_ _ _ hw889_2; first | rwa [al_] at this | exact this) GW888.out)) | (dsimp only; exact ak_ (aj_ (by have := aa_ _ _ hw889_2; first | rwa [al_] at this | exact this) GW888.out))) _).trans (((cw_ (p := ⟨gb888, _, none⟩) (by first | exact ak_ (aj_ (by have := aa_ _ _ hw889_2; first | rwa [al_] at this | exact this) GW888.out) | (rw [al_]; exact ak_ (aj_ (by have := aa_ _ _ hw889_2; first | rwa [al_] at this | exact this) GW888.out)) | (show (Addr.add _ _).block ≠ _; rw [al_]; exact ak_ (aj_ (by have := aa_ _ _ hw889_2; first | rwa [al_] at this | exact this) GW888.out)) | (dsimp only; exact ak_ (aj_ (by have := aa_ _ _ hw889_2; first | rwa [al_] at this | exact this) GW888.out))) _).trans (hHeld.2.2.2.2.2.2.2.2.1)))))), ((cw_ (p := ⟨gb888, _, none⟩) (by first | exact ak_ (aj_ (by have := aa_ _ _ hw895_0; first | rwa [al_] at this | exact this) GW888.out) | (rw [al_]; exact ak_ (aj_ (by have := aa_ _ _ hw895_0; first | rwa [al_] at this | exact this) GW888.out)) | (show (Addr.add _ _).block ≠ _; rw [al_]; exact ak_ (aj_ (by have := aa_ _ _ hw895_0; first | rwa [al_] at this | exact this) GW888.out)) | (dsimp only; exact ak_ (aj_ (by have := aa_ _ _ hw895_0; first | rwa [al_] at this | exact this) GW888.out))) _).trans (((cw_ (p := ⟨gb888, _, none⟩) (by first | exact ak_ (aj_ (by have := aa_ _ _ hw895_0; first | rwa [al_] at this | exact this) GW888.out) | (rw [al_]; exact ak_ (aj_ (by have := aa_ _ _ hw895_0; first | rwa [al_] at this | exact this) GW888.out)) | (show (Addr.add _ _).block ≠ _; rw [al_]; exact ak_ (aj_ (by have := aa_ _ _ hw895_0; first | rwa [al_] at this | exact this) GW888.out)) | (dsimp only; exact ak_ (aj_ (by have := aa_ _ _ hw895_0; first | rwa [al_] at this | exact this) GW888.out))) _).trans (((cw_ (p := ⟨gb888, _, none⟩) (by first | exact ak_ (aj_ (by have := aa_ _ _ hw895_0; first | rwa [al_] at this | exact this) GW888.out) | (rw [al_]; exact ak_ (aj_ (by have := aa_ _ _ hw895_0; first | rwa [al_] at this | exact this) GW888.out)) | (show (Addr.add _ _).block ≠ _; rw [al_]; exact ak_ (aj_ (by have := aa_ _ _ hw895_0; first | rwa [al_] at this | exact this) GW888.out)) | (dsimp only; exact ak_ (aj_ (by have := aa_ _ _ hw895_0; first | rwa [al_] at this | exact this) GW888.out))) _).trans (hHeld.2.2.2.2.2.2.2.2.2.1)))))), ((cw_ (p := ⟨gb888, _, none⟩) (by first | exact ak_ (aj_ (by have := aa_ _ _ hw895_1; first | rwa [al_] at this | exact this) GW888.out) | (rw [al_]; exact ak_ (aj_ (by have := aa_ _ _ hw895_1; first | rwa [al_] at this | exact this) GW888.out)) | (show (Addr.add _ _).block ≠ _; rw [al_]; exact ak_ (aj_ (by have := aa_ _ _ hw895_1; first | rwa [al_] at this | exact this) GW888.out)) | (dsimp only; exact ak_ (aj_ (by have := aa_ _ _ hw895_1; first | rwa [al_] at this | exact this) GW888.out))) _).trans (((cw_ (p := ⟨gb888, _, none⟩) (by first | exact ak_ (aj_ (by have := aa_ _ _ hw895_1; first | rwa [al_] at this | exact this) GW888.out) | (rw [al_]; exact ak_ (aj_ (by have := aa_ _ _ hw895_1; first | rwa [al_] at this | exact this) GW888.out)) | (show (Addr.add _ _).block ≠ _; rw [al_]; exact ak_ (aj_ (by have := aa_ _ _ hw895_1; first | rwa [al_] at this | exact this) GW888.out)) | (dsimp only; exact ak_ (aj_ (by have := aa_ _ _ hw895_1; first | rwa [al_] at this | exact this) GW888.out))) _).trans (((cw_ (p := ⟨gb888, _, none⟩) (by first | exact ak_ (aj_ (by have := aa_ _ _ hw895_1; first | rwa [al_] at this | exact this) GW888.out) | (rw [al_]; exact ak_ (aj_ (by have := aa_ _ _ hw895_1; first | rwa [al_] at this | exact this) GW888.out)) | (show (Addr.add _ _).block ≠ _; rw [al_]; exact ak_ (aj_ (by have := aa_ _ _ hw895_1; first | rwa [al_] at this | exact this) GW888.out)) | (dsimp only; exact ak_ (aj_ (by have := aa_ _ _ hw895_1; first | rwa [al_] at this | exact this) GW888.out))) _).trans (hHeld.2.2.2.2.2.2.2.2.2.2.1)))))), ((cw_ (p := ⟨gb888, _, none⟩) (by first | exact ak_ (aj_ (by have := aa_ _ _ hw895_2; first | rwa [al_] at this | exact this) GW888.out) | (rw [al_]; exact ak_ (aj_ (by have := aa_ _ _ hw895_2; first | rwa [al_] at this | exact this) GW888.out)) | (show (Addr.add _ _).block ≠ _; rw [al_]; exact ak_ (aj_ (by have := aa_ _ _ hw895_2; first | rwa [al_] at this | exact this) GW888.out)) | (dsimp only; exact ak_ (aj_ (by have := aa_ _ _ hw895_2; first | rwa [al_] at this | exact this) GW888.out))) _).trans (((cw_ (p := ⟨gb888, _, none⟩) (by first | exact ak_ (aj_ (by have := aa_ _ _ hw895_2; first | rwa [al_] at this | exact this) GW888.out) | (rw [al_]; exact ak_ (aj_ (by have := aa_ _ _ hw895_2; first | rwa [al_] at this | exact this) GW888.out)) | (show (Addr.add _ _).block ≠ _; rw [al_]; exact ak_ (aj_ (by have := aa_ _ _ hw895_2; first | rwa [al_] at this | exact this) GW888.out)) | (dsimp only; exact ak_ (aj_ (by have := aa_ _ _ hw895_2; first | rwa [al_] at this | exact this) GW888.out))) _).trans (((cw_ (p := ⟨gb888, _, none⟩) (by first | exact ak_ (aj_ (by have := aa_ _ _ hw895_2; first | rwa [al_] at this | exact this) GW888.out) | (rw [al_]; exact ak_ (aj_ (by have := aa_ _ _ hw895_2; first | rwa [al_] at this | exact this) GW888.out)) | (show (Addr.add _ _).block ≠ _; rw [al_]; exact ak_ (aj_ (by have := aa_ _ _ hw895_2; first | rwa [al_] at this | exact this) GW888.out)) | (dsimp only; exact ak_ (aj_ (by have := aa_ _ _ hw895_2; first | rwa [al_] at this | exact this) GW888.out))) _).trans (hHeld.2.2.2.2.2.2.2.2.2.2.2))))))⟩ (fun hHeld => ?_)
        clear hK K
        refine done_ (done_of HT_.out (by kernel_rfl)) ?_
        try go_wp2
        refine bodyPost_ret (results_cell_row rfl _ _ gb888 93 #[.bool true, .int .i64 a0_1, .slice Ao21 y901.length co21] (0, 0) _ rfl (by (with_reducible repeat (first | refine ac_ ?_ _ | refine ae_ ?_ | refine ad_ ?_ _)); refine blk_put (cs := #[.bool true, .int .i64 a0_1, .slice none 0 0]) ?_ 2 _ rfl; (with_reducible repeat (first | refine ac_ ?_ _ | refine ae_ ?_ | refine ad_ ?_ _)); refine blk_put (cs := #[.bool true, .int .i64 0, .slice none 0 0]) ?_ 1 _ rfl; (with_reducible repeat (first | refine ac_ ?_ _ | refine ae_ ?_ | refine ad_ ?_ _)); refine blk_put (cs := #[.bool false, .int .i64 0, .slice none 0 0]) ?_ 0 _ rfl; (with_reducible repeat (first | refine ac_ ?_ _ | refine ae_ ?_ | refine ad_ ?_ _)); exact BK888.out) Try.underlying93 rfl (by kernel_rfl)) rfl ?_
        exact ⟨_, by first | rfl | (simp [errW_none, errW_some] <;> rfl) | (simp [*, errW_none, errW_some] <;> rfl), by (with_reducible repeat (first | apply Kd.N_alloc | apply Kd.N_drewN | apply Kd.N_drew)); exact Kd.N_mono (Kd.N_far (p := ⟨gb888, 2, none⟩) (Kd.N_far (p := ⟨gb888, 1, none⟩) (Kd.N_far (p := ⟨gb888, 0, none⟩) (Kd.N_mono HO903.out (fun k_ hk => (⟨hk, hk.2.2.2⟩ : _ ∧ k_ ≠ gb888))) (fun _ hk => hk.2) (.bool true)) (fun _ hk => hk.2) (.int .i64 a0_1)) (fun _ hk => hk.2) (.slice Ao21 y901.length co21)) (fun _ hk => hk.1.1), by repeat (first | (with_reducible first | exact HB.out | apply ai_ | apply ag_ | apply ah_ | refine af_ ?_ GE886.out | refine af_ ?_ GE887.out | refine af_ ?_ GE888.out) | exact HB.out)⟩
      · rw [if_neg c6] at H
        exact absurd H (by simp)
    · rw [if_neg c4] at H
      exact absurd H (by simp)
  · replace c3 := Bool.eq_false_iff.mpr c3
    subst c3
    have H1 : ((spec_l9Add.f k a1_0 a1_1 l1_2 a0_1).bind fun bt904 => (some (bt904.1, bt904.2.1, bt904.2.2))) = some (r1, r2, r3) := by rw [if_neg (show ¬ (false = true) by decide)] at H; exact H
    clear H
    have H := H1
    clear H1
    replace H := Option.bind_eq_some_iff.mp H
    obtain ⟨⟨t904, t905, t906⟩, A250, H⟩ := H
    replace H : (some (t904, t905, t906)) = some (r1, r2, r3) := H
    have A25 := ab_ A250
    clear A250
    simp only [Option.some.injEq, Prod.mk.injEq] at H
    obtain ⟨rfl, rfl, rfl⟩ := H
    go_enter Try.func101, Try.ntmps101
    go_wp2_with (first | ((with_reducible refine gate_dst (N := 2) rfl ?_); refine box_event ?hg (N := 2) ?hd (cs := #[.bool false, .int .i64 a0_1, .slice A0_2 l0_2.length c0_2]) (t := 93) ?hr ?_; (case hd => rfl); (case hg => rfl); (case hr => first | (go_simp; done) | (go_simp; rfl)); intro gb886 hg w26 hbox hb; have n0_ := ab_ (au_ (by repeat (first | (with_reducible first | exact HB.out | apply ai_ | apply ag_ | apply ah_) | exact HB.out)) hb); have n1_ := ab_ (hbox); have n2_ := ab_ ((by rw [hg]; exact (below_size (by repeat (first | (with_reducible first | exact HB.out | apply ai_ | apply ag_ | apply ah_) | exact HB.out))) : w.heap.size ≤ gb886)); have n3_ := ab_ ((by rw [hg]; exact (below_size (by repeat (first | (with_reducible first | exact HB.out | apply ai_ | apply ag_ | apply ah_) | exact HB.out))) : w.heap.size ≤ gb886)); clear HB; have HB := n0_; have BK886 := n1_; have GW886 := n2_; have GE886 := n3_; clear n0_ n1_ n2_ n3_; clear hb hbox hg) | ((with_reducible refine gate_dst (N := 3) rfl ?_); refine box_event ?hg (N := 3) ?hd (cs := #[.bool a1_0, .int .i64 a1_1, .slice A1_2 l1_2.length c1_2]) (t := 93) ?hr ?_; (case hd => rfl); (case hg => rfl); (case hr => first | (go_simp; done) | (go_simp; rfl)); intro gb887 hg w27 hbox hb; have n0_ := ab_ (blk_below (g := gb886) (o := .cells #[.bool false, .int .i64 a0_1, .slice A0_2 l0_2.length c0_2] 93 (0, 0)) (by (with_reducible repeat (first | refine ac_ ?_ _ | refine ae_ ?_ | refine ad_ ?_ _)); exact BK886.out) hb); have n1_ := ab_ (au_ (by repeat (first | (with_reducible first | exact HB.out | apply ai_ | apply ag_ | apply ah_ | refine af_ ?_ GE886.out) | exact HB.out)) hb); have n2_ := ab_ (hbox); have n3_ := ab_ ((by rw [hg]; exact (below_size (by repeat (first | (with_reducible first | exact HB.out | apply ai_ | apply ag_ | apply ah_ | refine af_ ?_ GE886.out) | exact HB.out))) : w.heap.size ≤ gb887)); have n4_ := ab_ ((by rw [hg]; exact (below_size (by repeat (first | (with_reducible first | exact HB.out | apply ai_ | apply ag_ | apply ah_ | refine af_ ?_ GE886.out) | exact HB.out))) : w.heap.size ≤ gb887)); have n5_ := ab_ ((by rw [hg]; exact ak_ (blk_lt (g := gb886) (o := .cells #[.bool false, .int .i64 a0_1, .slice A0_2 l0_2.length c0_2] 93 (0, 0)) (by (with_reducible repeat (first | refine ac_ ?_ _ | refine ae_ ?_ | refine ad_ ?_ _)); exact BK886.out)) : gb886 ≠ gb887)); have n6_ := ab_ ((by rw [hg]; exact Nat.ne_of_gt (blk_lt (g := gb886) (o := .cells #[.bool false, .int .i64 a0_1, .slice A0_2 l0_2.length c0_2] 93 (0, 0)) (by (with_reducible repeat (first | refine ac_ ?_ _ | refine ae_ ?_ | refine ad_ ?_ _)); exact BK886.out)) : gb887 ≠ gb886)); clear BK886; clear HB; have BK886 := n0_; have HB := n1_; have BK887 := n2_; have GW887 := n3_; have GE887 := n4_; have NB886_887 := n5_; have NB887_886 := n6_; clear n0_ n1_ n2_ n3_ n4_ n5_ n6_; clear hb hbox hg) | ((with_reducible refine gate_dst (N := 4) rfl ?_); refine box_event ?hg (N := 4) ?hd (cs := #[.bool false, .int .i64 0, .slice none 0 0]) (t := 93) ?hr ?_; (case hd => rfl); (case hg => rfl); (case hr => first | (go_simp; done) | (go_simp; rfl)); intro gb888 hg w28 hbox hb; have n0_ := ab_ (blk_below (g := gb886) (o := .cells #[.bool false, .int .i64 a0_1, .slice A0_2 l0_2.length c0_2] 93 (0, 0)) (by (with_reducible repeat (first | refine ac_ ?_ _ | refine ae_ ?_ | refine ad_ ?_ _)); exact BK886.out) hb); have n1_ := ab_ (blk_below (g := gb887) (o := .cells #[.bool a1_0, .int .i64 a1_1, .slice A1_2 l1_2.length c1_2] 93 (0, 0)) (by (with_reducible repeat (first | refine ac_ ?_ _ | refine ae_ ?_ | refine ad_ ?_ _)); exact BK887.out) hb); have n2_ := ab_ (au_ (by repeat (first | (with_reducible first | exact HB.out | apply ai_ | apply ag_ | apply ah_ | refine af_ ?_ GE886.out | refine af_ ?_ GE887.out) | exact HB.out)) hb); have n3_ := ab_ (hbox); have n4_ := ab_ ((by rw [hg]; exact (below_size (by repeat (first | (with_reducible first | exact HB.out | apply ai_ | apply ag_ | apply ah_ | refine af_ ?_ GE886.out | refine af_ ?_ GE887.out) | exact HB.out))) : w.heap.size ≤ gb888)); have n5_ := ab_ ((by rw [hg]; exact (below_size (by repeat (first | (with_reducible first | exact HB.out | apply ai_ | apply ag_ | apply ah_ | refine af_ ?_ GE886.out | refine af_ ?_ GE887.out) | exact HB.out))) : w.heap.size ≤ gb888)); have n6_ := ab_ ((by rw [hg]; exact ak_ (blk_lt (g := gb886) (o := .cells #[.bool false, .int .i64 a0_1, .slice A0_2 l0_2.length c0_2] 93 (0, 0)) (by (with_reducible repeat (first | refine ac_ ?_ _ | refine ae_ ?_ | refine ad_ ?_ _)); exact BK886.out)) : gb886 ≠ gb888)); have n7_ := ab_ ((by rw [hg]; exact Nat.ne_of_gt (blk_lt (g := gb886) (o := .cells #[.bool false, .int .i64 a0_1, .slice A0_2 l0_2.length c0_2] 93 (0, 0)) (by (with_reducible repeat (first | refine ac_ ?_ _ | refine ae_ ?_ | refine ad_ ?_ _)); exact BK886.out)) : gb888 ≠ gb886)); have n8_ := ab_ ((by rw [hg]; exact ak_ (blk_lt (g := gb887) (o := .cells #[.bool a1_0, .int .i64 a1_1, .slice A1_2 l1_2.length c1_2] 93 (0, 0)) (by (with_reducible repeat (first | refine ac_ ?_ _ | refine ae_ ?_ | refine ad_ ?_ _)); exact BK887.out)) : gb887 ≠ gb888)); have n9_ := ab_ ((by rw [hg]; exact Nat.ne_of_gt (blk_lt (g := gb887) (o := .cells #[.bool a1_0, .int .i64 a1_1, .slice A1_2 l1_2.length c1_2] 93 (0, 0)) (by (with_reducible repeat (first | refine ac_ ?_ _ | refine ae_ ?_ | refine ad_ ?_ _)); exact BK887.out)) : gb888 ≠ gb887)); clear BK886; clear BK887; clear HB; have BK886 := n0_; have BK887 := n1_; have HB := n2_; have BK888 := n3_; have GW888 := n4_; have GE888 := n5_; have NB886_888 := n6_; have NB888_886 := n7_; have NB887_888 := n8_; have NB888_887 := n9_; clear n0_ n1_ n2_ n3_ n4_ n5_ n6_ n7_ n8_ n9_; clear hb hbox hg; have hnb29 := NB886_887.out; have hnc29 := NB887_886.out; have hnb30 := NB886_888.out; have hnc30 := NB888_886.out; have hcz31_0 : w28.cell? ⟨gb886, 0, none⟩ = some (.bool false) := (an_ BK886.out 0).trans rfl; have hcz31_1 : w28.cell? ⟨gb886, 1, none⟩ = some (.int .i64 a0_1) := (an_ BK886.out 1).trans rfl; have hcz31_2 : w28.cell? ⟨gb886, 2, none⟩ = some (.slice A0_2 l0_2.length c0_2) := (an_ BK886.out 2).trans rfl; have hfz31_0 := am_ BK886.out 0; have hfz31_1 := am_ BK886.out 1; have hfz31_2 := am_ BK886.out 2; have hnb32 := NB887_888.out; have hnc32 := NB888_887.out; have hcz33_0 : w28.cell? ⟨gb887, 0, none⟩ = some (.bool a1_0) := (an_ BK887.out 0).trans rfl; have hcz33_1 : w28.cell? ⟨gb887, 1, none⟩ = some (.int .i64 a1_1) := (an_ BK887.out 1).trans rfl; have hcz33_2 : w28.cell? ⟨gb887, 2, none⟩ = some (.slice A1_2 l1_2.length c1_2) := (an_ BK887.out 2).trans rfl; have hfz33_0 := am_ BK887.out 0; have hfz33_1 := am_ BK887.out 1; have hfz33_2 := am_ BK887.out 2) | ((with_reducible refine gate_callee (f := 72) rfl ?_); refine goesL_ (some 11) rfl rfl Try.func72 (by kernel_rfl) rfl #[.agg #[.bool a1_0, .int .i64 a1_1, .slice A1_2 l1_2.length c1_2], .int .i64 a0_1] rfl (by (try simp only [List.map_toArray, List.map_cons, List.map_nil]); first | done | rfl | (simp only [List.length_drop, List.length_take]; rfl)) ?_; (with_reducible refine (spec_l9Add.calls k a1_0 a1_1 _ _ l1_2 a0_1 t904 t905 t906 _ ?side1 ?side2 A25.out).mono ?_); (case side1 => repeat (first | exact (Kd.C_below HR1_2.out HB.out) | (with_reducible refine ar_ ?_ _) | (with_reducible refine as_ ?_ _) | (with_reducible refine Kd.C_drew ?_))); (case side2 => exact HC1_2.out); rintro e w34 ⟨v907, rfl, ho0, hb⟩; refine ⟨_, rfl, ?_⟩; have n0_ := ab_ (Kd.N_lower (Kd.N_mono (ok' := fun k_ => (w.heap.size ≤ k_) ∧ k_ ≠ gb886 ∧ k_ ≠ gb887 ∧ k_ ≠ gb888) ho0 (fun k_ hk_ => ⟨(Nat.le_trans (below_size (by repeat (first | (with_reducible first | exact HB.out | apply ai_ | apply ag_ | apply ah_ | refine af_ ?_ GE886.out | refine af_ ?_ GE887.out | refine af_ ?_ GE888.out) | exact HB.out))) hk_), (Kd.freshB (g := gb886) (o := .cells #[.bool false, .int .i64 a0_1, .slice A0_2 l0_2.length c0_2] 93 (0, 0)) (by (with_reducible repeat (first | refine ac_ ?_ _ | refine ae_ ?_ | refine ad_ ?_ _)); exact BK886.out) k_ hk_), (Kd.freshB (g := gb887) (o := .cells #[.bool a1_0, .int .i64 a1_1, .slice A1_2 l1_2.length c1_2] 93 (0, 0)) (by (with_reducible repeat (first | refine ac_ ?_ _ | refine ae_ ?_ | refine ad_ ?_ _)); exact BK887.out) k_ hk_), (Kd.freshB (g := gb888) (o := .cells #[.bool false, .int .i64 0, .slice none 0 0] 93 (0, 0)) (by (with_reducible repeat (first | refine ac_ ?_ _ | refine ae_ ?_ | refine ad_ ?_ _)); exact BK888.out) k_ hk_)⟩)) (below_size (by repeat (first | (with_reducible first | exact HB.out | apply ai_ | apply ag_ | apply ah_ | refine af_ ?_ GE886.out | refine af_ ?_ GE887.out | refine af_ ?_ GE888.out) | exact HB.out)))); have n1_ := ab_ (blk_below (g := gb886) (o := .cells #[.bool false, .int .i64 a0_1, .slice A0_2 l0_2.length c0_2] 93 (0, 0)) (by (with_reducible repeat (first | refine ac_ ?_ _ | refine ae_ ?_ | refine ad_ ?_ _)); exact BK886.out) hb); have n2_ := ab_ (blk_below (g := gb887) (o := .cells #[.bool a1_0, .int .i64 a1_1, .slice A1_2 l1_2.length c1_2] 93 (0, 0)) (by (with_reducible repeat (first | refine ac_ ?_ _ | refine ae_ ?_ | refine ad_ ?_ _)); exact BK887.out) hb); have n3_ := ab_ (blk_below (g := gb888) (o := .cells #[.bool false, .int .i64 0, .slice none 0 0] 93 (0, 0)) (by (with_reducible repeat (first | refine ac_ ?_ _ | refine ae_ ?_ | refine ad_ ?_ _)); exact BK888.out) hb); have n4_ := ab_ (au_ (by repeat (first | (with_reducible first | exact HB.out | apply ai_ | apply ag_ | apply ah_ | refine af_ ?_ GE886.out | refine af_ ?_ GE887.out | refine af_ ?_ GE888.out) | exact HB.out)) hb); clear BK886; clear BK887; clear BK888; clear HB; have HO908 := n0_; have BK886 := n1_; have BK887 := n2_; have BK888 := n3_; have HB := n4_; clear n0_ n1_ n2_ n3_ n4_; (try clear hb); (try clear hb2); (try clear hk); (try clear hi); (try clear ho0); have hcz35_0 : w34.cell? ⟨gb888, 0, none⟩ = some (.bool false) := (an_ BK888.out 0).trans rfl; have hcz35_1 : w34.cell? ⟨gb888, 1, none⟩ = some (.int .i64 0) := (an_ BK888.out 1).trans rfl; have hcz35_2 : w34.cell? ⟨gb888, 2, none⟩ = some (.slice none 0 0) := (an_ BK888.out 2).trans rfl; have hfz35_0 := am_ BK888.out 0; have hfz35_1 := am_ BK888.out 1; have hfz35_2 := am_ BK888.out 2; obtain ⟨Ao36, co36, eo36⟩ := Kd.N_slice HO908.out; subst eo36))
    refine bodyPost_ret (results_cell_row rfl _ _ gb888 93 #[.bool t904, .int .i64 t905, .slice Ao36 t906.length co36] (0, 0) _ rfl (by (with_reducible repeat (first | refine ac_ ?_ _ | refine ae_ ?_ | refine ad_ ?_ _)); refine blk_put (cs := #[.bool t904, .int .i64 t905, .slice none 0 0]) ?_ 2 _ rfl; (with_reducible repeat (first | refine ac_ ?_ _ | refine ae_ ?_ | refine ad_ ?_ _)); refine blk_put (cs := #[.bool t904, .int .i64 0, .slice none 0 0]) ?_ 1 _ rfl; (with_reducible repeat (first | refine ac_ ?_ _ | refine ae_ ?_ | refine ad_ ?_ _)); refine blk_put (cs := #[.bool false, .int .i64 0, .slice none 0 0]) ?_ 0 _ rfl; (with_reducible repeat (first | refine ac_ ?_ _ | refine ae_ ?_ | refine ad_ ?_ _)); exact BK888.out) Try.underlying93 rfl (by kernel_rfl)) rfl ?_
    exact ⟨_, by first | rfl | (simp [errW_none, errW_some] <;> rfl) | (simp [*, errW_none, errW_some] <;> rfl), by (with_reducible repeat (first | apply Kd.N_alloc | apply Kd.N_drewN | apply Kd.N_drew)); exact Kd.N_mono (Kd.N_far (p := ⟨gb888, 2, none⟩) (Kd.N_far (p := ⟨gb888, 1, none⟩) (Kd.N_far (p := ⟨gb888, 0, none⟩) (Kd.N_mono HO908.out (fun k_ hk => (⟨hk, hk.2.2.2⟩ : _ ∧ k_ ≠ gb888))) (fun _ hk => hk.2) (.bool t904)) (fun _ hk => hk.2) (.int .i64 t905)) (fun _ hk => hk.2) (.slice Ao36 t906.length co36)) (fun _ hk => hk.1.1), by repeat (first | (with_reducible first | exact HB.out | apply ai_ | apply ag_ | apply ah_ | refine af_ ?_ GE886.out | refine af_ ?_ GE887.out | refine af_ ?_ GE888.out) | exact HB.out)⟩
end Go.Proofs.Ytjnaokdncemggaa.PAll

end
