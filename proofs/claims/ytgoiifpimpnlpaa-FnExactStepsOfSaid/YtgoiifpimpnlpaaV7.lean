-- Made by pack.py of the texts that the law reaches.
import Derived.ChangeArms
import Derived.ChangeSame
import Derived.DataReads
import Derived.Deep.Strs
import Derived.Lib.SmallJoins
import Derived.Test.YtgoiifpimpnlpaaV6
section
namespace Go.Proofs.Ytgoiifpimpnlpaa.PAll
open Go.RowKit Go.Proofs.YtgoiifpimpnlpaaW.PrintWords Go.Proofs.YtgoiifpimpnlpaaW.PrintLast Go.Proofs.YtgoiifpimpnlpaaW.PrintMore
attribute [local go_sem] max2_int min2_int max_two min_two max_three min_three max_four min_four   -- for this text's walks alone
set_option linter.unusedVariables false
set_option linter.unusedSimpArgs false
def spec_StepsOf.l0 : Nat → List (List (S66)) → List (S62) → Int → Int → Option ((List (List (S66))) × Bool)
  | 0, _, _, _, _ => none
  | k + 1, x8, x27, x28, x29 => if x29 < x28 then (if 0 ≤ x29 then (if x29 < (x27.length : Int) then ((spec_l3Tell.f k ((rd_T62 x27 x29).f0) ((rd_T62 x27 x29).f1) ((rd_T62 x27 x29).f2)).bind fun bt693 => (if bt693.2 = true then (if x8.length < 5864062014805 then (spec_StepsOf.l0 k (x8 ++ [bt693.1]) x27 x28 (wrap64 (x29 + 1))) else (none)) else (some (([] : List (List (S66))), false)))) else (none)) else (none)) else (some (x8, true))
def spec_StepsOf.f (k : Nat) (l0 : List (S66)) : Option ((List (List (S66))) × Bool) := (spec_l3Tree.f k l0).bind fun bt680 => (if bt680.2.2.2 = true then ((spec_l4Steps.f k bt680.1 bt680.2.1 bt680.2.2.1).bind fun bt687 => (if bt687.2 = true then (spec_StepsOf.l0 k ([] : List (List (S66))) bt687.1 (bt687.1.length : Int) 0) else (some (([] : List (List (S66))), false)))) else (some (([] : List (List (S66))), false)))
set_option maxHeartbeats 8000000 in
set_option maxRecDepth 100000 in
theorem spec_StepsOf.calls (k : Nat) (A0 : Option Addr) (c0 : Nat) (l0 : List (S66)) (r1 : List (List (S66))) (r2 : Bool) (w : World) (hr0 : Kd.C k66 w A0 l0.length l0) (hc0 : l0.length ≤ c0) (h : spec_StepsOf.f k l0 = some (r1, r2)) :
    Calls Try.prog 32 #[.slice A0 l0.length c0] w fun e w' => ∃ v0_ : Value, e = .returned (.tuple #[v0_, .bool r2]) ∧ Kd.N (Kd.slice 66 k66) 25 w' w.heap.size (fun k_ => (w.heap.size ≤ k_)) v0_ r1 ∧ Below w.heap.size w w' := by
  have hu62 := Try.underlying62
  have HR0 := ab_ hr0
  have HC0 := ab_ hc0
  clear hr0 hc0
  have HB := ab_ (aq_ w.heap.size w)
  have H : ((spec_l3Tree.f k l0).bind fun bt680 => (if bt680.2.2.2 = true then ((spec_l4Steps.f k bt680.1 bt680.2.1 bt680.2.2.1).bind fun bt687 => (if bt687.2 = true then (spec_StepsOf.l0 k ([] : List (List (S66))) bt687.1 (bt687.1.length : Int) 0) else (some (([] : List (List (S66))), false)))) else (some (([] : List (List (S66))), false)))) = some (r1, r2) := h
  clear h
  replace H := Option.bind_eq_some_iff.mp H
  obtain ⟨⟨t680, t681, t682, t685⟩, A20, H⟩ := H
  replace H : (if t685 = true then ((spec_l4Steps.f k t680 t681 t682).bind fun bt687 => (if bt687.2 = true then (spec_StepsOf.l0 k ([] : List (List (S66))) bt687.1 (bt687.1.length : Int) 0) else (some (([] : List (List (S66))), false)))) else (some (([] : List (List (S66))), false))) = some (r1, r2) := H
  have A2 := ab_ A20
  clear A20
  by_cases c3 : t685 = true
  · subst c3
    have H1 : ((spec_l4Steps.f k t680 t681 t682).bind fun bt687 => (if bt687.2 = true then (spec_StepsOf.l0 k ([] : List (List (S66))) bt687.1 (bt687.1.length : Int) 0) else (some (([] : List (List (S66))), false)))) = some (r1, r2) := by rw [if_pos rfl] at H; exact H
    clear H
    have H := H1
    clear H1
    replace H := Option.bind_eq_some_iff.mp H
    obtain ⟨⟨t687, t690⟩, A40, H⟩ := H
    replace H : (if t690 = true then (spec_StepsOf.l0 k ([] : List (List (S66))) t687 (t687.length : Int) 0) else (some (([] : List (List (S66))), false))) = some (r1, r2) := H
    have A4 := ab_ A40
    clear A40
    by_cases c5 : t690 = true
    · subst c5
      have H1 : (spec_StepsOf.l0 k ([] : List (List (S66))) t687 (t687.length : Int) 0) = some (r1, r2) := by rw [if_pos rfl] at H; exact H
      clear H
      have H := H1
      clear H1
      have H' := ab_ H
      clear H
      go_enter Try.func32, Try.ntmps32
      go_wp2_with (first | ((with_reducible refine gate_callee (f := 47) rfl ?_); refine goesL_ (some 15) rfl rfl Try.func47 (by kernel_rfl) rfl #[.slice A0 l0.length c0] rfl (by (try simp only [List.map_toArray, List.map_cons, List.map_nil]); first | done | rfl | (simp only [List.length_drop, List.length_take]; rfl)) ?_; (with_reducible refine (spec_l3Tree.calls k _ _ l0 t680 t681 t682 true _ ?side1 ?side2 A2.out).mono ?_); (case side1 => repeat (first | exact HR0.out | (with_reducible refine Kd.C_alloc ?_ _) | (with_reducible refine Kd.C_drewN ?_ _) | (with_reducible refine Kd.C_drew ?_))); (case side2 => exact HC0.out); rintro e w6 ⟨v683, rfl, ho0, hb⟩; refine ⟨_, rfl, ?_⟩; have n0_ := ab_ (Kd.N_lower (Kd.N_mono (ok' := fun k_ => (w.heap.size ≤ k_)) (Kd.R_N (Kd.R_bound ho0)) (fun k_ hk_ => (Nat.le_trans (below_size (by repeat (first | (with_reducible first | exact HB.out | apply ai_ | apply ag_ | apply ah_) | exact HB.out))) hk_.2.1))) (below_size (by repeat (first | (with_reducible first | exact HB.out | apply ai_ | apply ag_ | apply ah_) | exact HB.out)))); have n1_ := ab_ (ap_ (by repeat (first | (with_reducible first | exact HB.out | apply ai_ | apply ag_ | apply ah_) | exact HB.out)) hb); clear HB; have HO684 := n0_; have HB := n1_; clear n0_ n1_; (try clear hb); (try clear hb2); (try clear hk); (try clear hi); (try clear ho0)) | ((with_reducible refine gate_dst (N := 4) rfl ?_); refine box_event ?hg (N := 4) ?hd (cs := #[.int .i64 0, .int .i64 0, .slice none 0 0]) (t := 62) ?hr ?_; (case hd => rfl); (case hg => rfl); (case hr => first | (go_simp; done) | (go_simp; rfl)); intro gb686 hg w7 hbox hb; have n0_ := ab_ (Kd.N_below (Kd.N_elderB (by (with_reducible repeat (first | apply Kd.N_alloc | apply Kd.N_drewN | apply Kd.N_drew)); exact HO684.out) gb686 (Nat.le_of_eq hg.symm)) hb); have n1_ := ab_ (ap_ (by repeat (first | (with_reducible first | exact HB.out | apply ai_ | apply ag_ | apply ah_) | exact HB.out)) hb); have n2_ := ab_ (hbox); have n3_ := ab_ ((by rw [hg]; exact (below_size (by repeat (first | (with_reducible first | exact HB.out | apply ai_ | apply ag_ | apply ah_) | exact HB.out))) : w.heap.size ≤ gb686)); have n4_ := ab_ ((by rw [hg]; exact (below_size (by repeat (first | (with_reducible first | exact HB.out | apply ai_ | apply ag_ | apply ah_) | exact HB.out))) : w.heap.size ≤ gb686)); clear HO684; clear HB; have HO684 := n0_; have HB := n1_; have BK686 := n2_; have GW686 := n3_; have GE686 := n4_; clear n0_ n1_ n2_ n3_ n4_; clear hb hbox hg; have hcz8_0 : w7.cell? ⟨gb686, 0, none⟩ = some (.int .i64 0) := (an_ BK686.out 0).trans rfl; have hcz8_1 : w7.cell? ⟨gb686, 1, none⟩ = some (.int .i64 0) := (an_ BK686.out 1).trans rfl; have hcz8_2 : w7.cell? ⟨gb686, 2, none⟩ = some (.slice none 0 0) := (an_ BK686.out 2).trans rfl; have hfz8_0 := am_ BK686.out 0; have hfz8_1 := am_ BK686.out 1; have hfz8_2 := am_ BK686.out 2; obtain ⟨Ao9, co9, eo9⟩ := Kd.N_slice HO684.out; subst eo9) | ((with_reducible refine gate_store (t := 62) (p := 4) rfl ?_); refine store_event (t := 62) (p := 4) (v := ?vo_w10) (w1 := (((w7.setCell ⟨gb686, 0, none⟩ (.int .i64 t680)).setCell ⟨gb686, 1, none⟩ (.int .i64 t681)).setCell ⟨gb686, 2, none⟩ (.slice Ao9 t682.length co9))) ?hg ?ho ?hn ?hr ?_; (case ho => rfl); (case hg => rfl); (case hn => rfl); (case hr => first | (go_simp; done) | (go_simp; rfl)); intro w10 hw; have n0_ : Aside0 (Kd.N k62 62 w10 w.heap.size (fun k_ => (w.heap.size ≤ k_) ∧ k_ ≠ gb686) (.slice Ao9 t682.length co9) t682) := ⟨(by rw [hw]; exact (by (with_reducible repeat (first | apply Kd.N_alloc | apply Kd.N_drewN | apply Kd.N_drew)); exact Kd.N_mono (Kd.N_far (p := ⟨gb686, 2, none⟩) (Kd.N_far (p := ⟨gb686, 1, none⟩) (Kd.N_far (p := ⟨gb686, 0, none⟩) (Kd.N_mono HO684.out (fun k_ hk => (⟨hk, hk.2⟩ : _ ∧ k_ ≠ gb686))) (fun _ hk => hk.2) (.int .i64 t680)) (fun _ hk => hk.2) (.int .i64 t681)) (fun _ hk => hk.2) (.slice Ao9 t682.length co9)) (fun _ hk => ⟨hk.1.1, hk.1.2⟩)))⟩; have n1_ : Aside0 (w10.heap[gb686]? = some (.cells #[.int .i64 t680, .int .i64 t681, .slice Ao9 t682.length co9] 62 (0, 0))) := ⟨(by rw [hw]; exact (by (with_reducible repeat (first | refine ac_ ?_ _ | refine ae_ ?_ | refine ad_ ?_ _)); refine blk_put (cs := #[.int .i64 t680, .int .i64 t681, .slice none 0 0]) ?_ 2 _ rfl; (with_reducible repeat (first | refine ac_ ?_ _ | refine ae_ ?_ | refine ad_ ?_ _)); refine blk_put (cs := #[.int .i64 t680, .int .i64 0, .slice none 0 0]) ?_ 1 _ rfl; (with_reducible repeat (first | refine ac_ ?_ _ | refine ae_ ?_ | refine ad_ ?_ _)); refine blk_put (cs := #[.int .i64 0, .int .i64 0, .slice none 0 0]) ?_ 0 _ rfl; (with_reducible repeat (first | refine ac_ ?_ _ | refine ae_ ?_ | refine ad_ ?_ _)); exact BK686.out))⟩; have n2_ : Aside0 (Below w.heap.size w w10) := ⟨(by rw [hw]; exact (by repeat (first | (with_reducible first | exact HB.out | apply ai_ | apply ag_ | apply ah_ | refine af_ ?_ GE686.out) | exact HB.out)))⟩; clear hw; clear HO684; clear BK686; clear HB; have HO684 := n0_; have BK686 := n1_; have HB := n2_; clear n0_ n1_ n2_; have hcz11_0 : w10.cell? ⟨gb686, 0, none⟩ = some (.int .i64 t680) := (an_ BK686.out 0).trans rfl; have hcz11_1 : w10.cell? ⟨gb686, 1, none⟩ = some (.int .i64 t681) := (an_ BK686.out 1).trans rfl; have hcz11_2 : w10.cell? ⟨gb686, 2, none⟩ = some (.slice Ao9 t682.length co9) := (an_ BK686.out 2).trans rfl; have hfz11_0 := am_ BK686.out 0; have hfz11_1 := am_ BK686.out 1; have hfz11_2 := am_ BK686.out 2) | ((with_reducible refine gate_callee (f := 72) rfl ?_); refine goesL_ (some 22) rfl rfl Try.func72 (by kernel_rfl) rfl #[.agg #[.int .i64 t680, .int .i64 t681, .slice Ao9 t682.length co9]] rfl (by (try simp only [List.map_toArray, List.map_cons, List.map_nil]); first | done | rfl | (simp only [List.length_drop, List.length_take]; rfl)) ?_; (with_reducible refine (spec_l4Steps.calls k t680 t681 (fun k_ => ((w.heap.size ≤ k_) ∧ k_ ≠ gb686)) _ _ t682 t687 true _ ?side1 A4.out).mono ?_); (case side1 => exact Kd.N_V (HO684.out)); rintro e w12 ⟨v688, rfl, ho0, hb⟩; refine ⟨_, rfl, ?_⟩; have n0_ := ab_ (Kd.N_elder' (by (with_reducible repeat (first | apply Kd.N_alloc | apply Kd.N_drewN | apply Kd.N_drew)); exact HO684.out) (by first | exact Kd.N_base ho0 | exact Kd.R_base ho0) hb); have n1_ := ab_ (Kd.N_lower (Kd.N_mono (ok' := fun k_ => (w.heap.size ≤ k_) ∧ k_ ≠ gb686) ho0 (fun k_ hk_ => ⟨Or.elim hk_ (fun hs_ => hs_.1) (fun hn_ => (Nat.le_trans (below_size (by repeat (first | (with_reducible first | exact HB.out | apply ai_ | apply ag_ | apply ah_ | refine af_ ?_ GE686.out) | exact HB.out))) hn_)), Or.elim hk_ (fun hs_ => hs_.2) (fun hn_ => (Kd.freshB (g := gb686) (o := .cells #[.int .i64 t680, .int .i64 t681, .slice Ao9 t682.length co9] 62 (0, 0)) (by (with_reducible repeat (first | refine ac_ ?_ _ | refine ae_ ?_ | refine ad_ ?_ _)); exact BK686.out) k_ hn_))⟩)) (below_size (by repeat (first | (with_reducible first | exact HB.out | apply ai_ | apply ag_ | apply ah_ | refine af_ ?_ GE686.out) | exact HB.out)))); have n2_ := ab_ (blk_below (g := gb686) (o := .cells #[.int .i64 t680, .int .i64 t681, .slice Ao9 t682.length co9] 62 (0, 0)) (by (with_reducible repeat (first | refine ac_ ?_ _ | refine ae_ ?_ | refine ad_ ?_ _)); exact BK686.out) hb); have n3_ := ab_ (ap_ (by repeat (first | (with_reducible first | exact HB.out | apply ai_ | apply ag_ | apply ah_ | refine af_ ?_ GE686.out) | exact HB.out)) hb); clear HO684; clear BK686; clear HB; have HO684 := n0_; have HO689 := n1_; have BK686 := n2_; have HB := n3_; clear n0_ n1_ n2_ n3_; (try clear hb); (try clear hb2); (try clear hk); (try clear hi); (try clear ho0); obtain ⟨Ao13, co13, eo13⟩ := Kd.N_slice HO689.out; subst eo13))
      go_loopg [8, 29] k (fun kq v8 v29 w' => ∃ (x8_1 : List (List (S66))) (x29_1 : Int), v29 = .int .i64 x29_1 ∧ Aside0 (spec_StepsOf.l0 kq x8_1 t687 (t687.length : Int) x29_1 = some (r1, r2)) ∧ Aside0 (kq ≤ k) ∧ Aside0 (Kd.N (Kd.slice 66 k66) 25 w' w.heap.size (fun k_ => (w.heap.size ≤ k_) ∧ some k_ ≠ ((.slice Ao13 t687.length co13) : Value).ownBlock ∧ some k_ ≠ ((.slice Ao9 t682.length co9) : Value).ownBlock ∧ k_ ≠ gb686) v8 x8_1) ∧ Aside0 (Kd.N k62 62 w' w.heap.size (fun k_ => (w.heap.size ≤ k_) ∧ some k_ ≠ (v8 : Value).ownBlock ∧ k_ ≠ gb686) (.slice Ao13 t687.length co13) t687) ∧ Aside0 (Kd.N k62 62 w' w.heap.size (fun k_ => (w.heap.size ≤ k_) ∧ some k_ ≠ (v8 : Value).ownBlock ∧ some k_ ≠ ((.slice Ao13 t687.length co13) : Value).ownBlock ∧ k_ ≠ gb686) (.slice Ao9 t682.length co9) t682) ∧ Aside0 (w'.heap[gb686]? = some (.cells #[.int .i64 t680, .int .i64 t681, (.slice Ao9 t682.length co9)] 62 (0, 0))) ∧ Aside0 (Below w.heap.size w w'))
      case atStart => exact ⟨(([] : List (List (S66)))), (0), (by first | rfl | (simp; done) | (simp [*]; done)), H', ⟨Nat.le_refl _⟩, ⟨by first | exact Kd.S_nil _ _ _ _ _ | exact Kd.N_nil _ _ _ _ _ | exact Kd.V_nil _ _ _ _ _ | exact Kd.Q_nil _ _ _ _ _ | exact Kd.R_nil _ _ _ _ _⟩, ⟨by (with_reducible repeat (first | apply Kd.N_alloc | apply Kd.N_drewN | apply Kd.N_drew)); exact Kd.N_mono HO689.out (fun _ hk => ⟨hk.1, ⟨(by simp [Value.ownBlock]), hk.2⟩⟩)⟩, ⟨by (with_reducible repeat (first | apply Kd.N_alloc | apply Kd.N_drewN | apply Kd.N_drew)); exact Kd.N_mono HO684.out (fun _ hk => ⟨hk.1.1, ⟨(by simp [Value.ownBlock]), ⟨hk.2, hk.1.2⟩⟩⟩)⟩, ⟨by (with_reducible repeat (first | refine ac_ ?_ _ | refine ae_ ?_ | refine ad_ ?_ _)); exact BK686.out⟩, ⟨by repeat (first | (with_reducible first | exact HB.out | apply ai_ | apply ag_ | apply ah_ | refine af_ ?_ GE686.out) | exact HB.out)⟩⟩
      case round =>
        clear H'
        try clear p2
        try clear c3
        try clear c4
        try clear c5
        try clear c7
        try clear hcz11_0
        try clear hcz11_1
        try clear hcz11_2
        try clear hcz8_0
        try clear hcz8_1
        try clear hcz8_2
        try clear hfz11_0
        try clear hfz11_1
        try clear hfz11_2
        try clear hfz8_0
        try clear hfz8_1
        try clear hfz8_2
        obtain ⟨x8_1, x29_1, rfl, HA, HK1, HO_8, HO_27, HO_687002, BK686, HB⟩ := hrel
        cases gk with
        | zero => exact absurd HA.out (by simp [spec_StepsOf.l0])
        | succ k1 =>
          have H := HA.out
          clear HA
          simp only [spec_StepsOf.l0] at H
          by_cases c14 : x29_1 < (t687.length : Int)
          · rw [if_pos c14] at H
            have c14b0 : decide (x29_1 < (t687.length : Int)) = true := ao_ c14
            clear c14
            by_cases c15 : 0 ≤ x29_1
            · rw [if_pos c15] at H
              have c15b0 : decide (0 ≤ x29_1) = true := ao_ c15
              clear c15
              by_cases c16 : x29_1 < (t687.length : Int)
              · rw [if_pos c16] at H
                have c16b0 : decide (x29_1 < (t687.length : Int)) = true := ao_ c16
                clear c16
                replace H := Option.bind_eq_some_iff.mp H
                obtain ⟨⟨t693, t696⟩, A170, H⟩ := H
                replace H : (if t696 = true then (if x8_1.length < 5864062014805 then (spec_StepsOf.l0 k1 (x8_1 ++ [t693]) t687 (t687.length : Int) (wrap64 (x29_1 + 1))) else (none)) else (some (([] : List (List (S66))), false))) = some (r1, r2) := H
                have A17 := ab_ A170
                clear A170
                by_cases c18 : t696 = true
                · subst c18
                  have H1 : (if x8_1.length < 5864062014805 then (spec_StepsOf.l0 k1 (x8_1 ++ [t693]) t687 (t687.length : Int) (wrap64 (x29_1 + 1))) else (none)) = some (r1, r2) := by rw [if_pos rfl] at H; exact H
                  clear H
                  have H := H1
                  clear H1
                  by_cases c19 : x8_1.length < 5864062014805
                  · rw [if_pos c19] at H
                    have LMc19 := ab_ c19
                    clear c19
                    obtain ⟨y697, hy697⟩ : ∃ y_ : List (List (S66)), y_ = (x8_1 ++ [t693]) := ⟨_, rfl⟩
                    replace H : (spec_StepsOf.l0 k1 y697 t687 (t687.length : Int) (wrap64 (x29_1 + 1))) = some (r1, r2) := by first | (rw [hy697]; with_reducible exact H) | (have H2_ := (Option.bind_some _ _).symm.trans H; rw [hy697]; with_reducible exact H2_) | (have H2_ := (Option.bind_some _ _).symm.trans H; with_reducible exact H2_) | with_reducible exact H | (rw [hy697]; exact H) | exact H
                    have Ny697 := ab_ hy697
                    clear hy697
                    have H' := ab_ H
                    clear H
                    have p691 : 0 ≤ (x29_1 : Int) := of_decide_eq_true (by first | (with_reducible assumption) | assumption)
                    have q691 : x29_1 < (t687.length : Int) := of_decide_eq_true (by first | (with_reducible assumption) | assumption)
                    obtain ⟨ad691, A691_2, c691_2, e691, hx691_0, hx691_1, hx691_2, hl691_2, hi691_2⟩ := at_T62 (Kd.N_reads' HO_27.out).2.2 x29_1 p691 q691
                    cases e691
                    obtain ⟨ce691, hce691, hMe691, hcc691⟩ := Kd.N_get HO_27.out z62 x29_1 p691 (by first | exact q691 | exact of_decide_eq_true (by first | (with_reducible assumption) | assumption) | (have e_ := (Kd.N_reads' HO_27.out).1; omega))
                    obtain ⟨ua691_2, uc691_2, rfl, ul691_2, ge691_2⟩ := k62_openF hMe691
                    have hv691_2 := hcc691 2 _ rfl
                    rw [add_field _ _ 2 (by omega)] at hv691_2
                    replace hv691_2 := Option.some.inj (hv691_2.symm.trans hx691_2)
                    injection hv691_2 with hva_ hvn_ hvc_
                    rw [hva_] at ge691_2
                    rw [hvc_] at ul691_2
                    have HL691_2 := ab_ (show Kd.V k62 62 _ w.heap.size _ _ ((rd_T62 t687 x29_1).f2) from Kd.V_mk ul691_2 ge691_2)
                    clear hva_ hvn_ hvc_ ge691_2 ul691_2
                    clear hcc691 hce691
                    have HR691_2 := ab_ hi691_2
                    have HC691_2 := ab_ hl691_2
                    clear hi691_2 hl691_2
                    replace p691 := eq_true p691
                    replace q691 := eq_true q691
                    go_wp2_with (first | ((with_reducible refine gate_dst (N := 10) rfl ?_); refine box_event ?hg (N := 10) ?hd (cs := #[.int .i64 0, .int .i64 0, .slice none 0 0]) (t := 62) ?hr ?_; (case hd => rfl); (case hg => rfl); (case hr => first | (go_simp; done) | (go_simp; rfl)); intro gb692 hg w20 hbox hb; have n0_ := ab_ (Kd.N_below (Kd.N_elderB (by (with_reducible repeat (first | apply Kd.N_alloc | apply Kd.N_drewN | apply Kd.N_drew)); exact HO_8.out) gb692 (Nat.le_of_eq hg.symm)) hb); have n1_ := ab_ (Kd.N_below (Kd.N_elderB (by (with_reducible repeat (first | apply Kd.N_alloc | apply Kd.N_drewN | apply Kd.N_drew)); exact HO_27.out) gb692 (Nat.le_of_eq hg.symm)) hb); have n2_ := ab_ (Kd.N_below (Kd.N_elderB (by (with_reducible repeat (first | apply Kd.N_alloc | apply Kd.N_drewN | apply Kd.N_drew)); exact HO_687002.out) gb692 (Nat.le_of_eq hg.symm)) hb); have n3_ := ab_ (Kd.V_below (Kd.V_elderB (by (with_reducible repeat (first | apply Kd.V_alloc | apply Kd.V_drewN | apply Kd.V_drew)); exact HL691_2.out) gb692 (Nat.le_of_eq hg.symm)) hb); have n4_ := ab_ (blk_below (g := gb686) (o := .cells #[.int .i64 t680, .int .i64 t681, .slice Ao9 t682.length co9] 62 (0, 0)) (by (with_reducible repeat (first | refine ac_ ?_ _ | refine ae_ ?_ | refine ad_ ?_ _)); exact BK686.out) hb); have n5_ := ab_ (Kd.C_below (by repeat (first | (with_reducible exact HR691_2.out) | (with_reducible refine Kd.C_alloc ?_ _) | (with_reducible refine Kd.C_drewN ?_ _) | (with_reducible refine Kd.C_drew ?_) | exact HR691_2.out)) hb); have n6_ := ab_ (ap_ (by repeat (first | (with_reducible first | exact HB.out | apply ai_ | apply ag_ | apply ah_ | refine af_ ?_ GE686.out) | exact HB.out)) hb); have n7_ := ab_ (hbox); have n8_ := ab_ ((by rw [hg]; exact (below_size (by repeat (first | (with_reducible first | exact HB.out | apply ai_ | apply ag_ | apply ah_ | refine af_ ?_ GE686.out) | exact HB.out))) : w.heap.size ≤ gb692)); have n9_ := ab_ ((by rw [hg]; exact (below_size (by repeat (first | (with_reducible first | exact HB.out | apply ai_ | apply ag_ | apply ah_ | refine af_ ?_ GE686.out) | exact HB.out))) : w.heap.size ≤ gb692)); have n10_ := ab_ ((by rw [hg]; exact ak_ (blk_lt (g := gb686) (o := .cells #[.int .i64 t680, .int .i64 t681, .slice Ao9 t682.length co9] 62 (0, 0)) (by (with_reducible repeat (first | refine ac_ ?_ _ | refine ae_ ?_ | refine ad_ ?_ _)); exact BK686.out)) : gb686 ≠ gb692)); have n11_ := ab_ ((by rw [hg]; exact Nat.ne_of_gt (blk_lt (g := gb686) (o := .cells #[.int .i64 t680, .int .i64 t681, .slice Ao9 t682.length co9] 62 (0, 0)) (by (with_reducible repeat (first | refine ac_ ?_ _ | refine ae_ ?_ | refine ad_ ?_ _)); exact BK686.out)) : gb692 ≠ gb686)); clear HO_8; clear HO_27; clear HO_687002; clear HL691_2; clear BK686; clear HR691_2; clear HB; have HO_8 := n0_; have HO_27 := n1_; have HO_687002 := n2_; have HL691_2 := n3_; have BK686 := n4_; have HR691_2 := n5_; have HB := n6_; have BK692 := n7_; have GW692 := n8_; have GE692 := n9_; have NB686_692 := n10_; have NB692_686 := n11_; clear n0_ n1_ n2_ n3_ n4_ n5_ n6_ n7_ n8_ n9_ n10_ n11_; clear hb hbox hg; have hnb21 := NB692_686.out; have hnc21 := NB686_692.out; have hcz22_0 : w20.cell? ⟨gb692, 0, none⟩ = some (.int .i64 0) := (an_ BK692.out 0).trans rfl; have hcz22_1 : w20.cell? ⟨gb692, 1, none⟩ = some (.int .i64 0) := (an_ BK692.out 1).trans rfl; have hcz22_2 : w20.cell? ⟨gb692, 2, none⟩ = some (.slice none 0 0) := (an_ BK692.out 2).trans rfl; have hfz22_0 := am_ BK692.out 0; have hfz22_1 := am_ BK692.out 1; have hfz22_2 := am_ BK692.out 2) | ((with_reducible refine gate_callee (f := 61) rfl ?_); refine goesL_ (some 35) rfl rfl Try.func61 (by kernel_rfl) rfl #[.agg #[.int .i64 ((rd_T62 t687 x29_1).f0), .int .i64 ((rd_T62 t687 x29_1).f1), .slice A691_2 ((rd_T62 t687 x29_1).f2).length c691_2]] rfl (by (try simp only [List.map_toArray, List.map_cons, List.map_nil]); first | done | rfl | (simp only [List.length_drop, List.length_take]; rfl)) ?_; (with_reducible refine (spec_l3Tell.calls k1 ((rd_T62 t687 x29_1).f0) ((rd_T62 t687 x29_1).f1) _ _ ((rd_T62 t687 x29_1).f2) t693 true _ ?side1 ?side2 A17.out).mono ?_); (case side1 => repeat (first | exact ((Kd.V_reads' (by (with_reducible repeat (first | apply Kd.V_alloc | apply Kd.V_drewN | apply Kd.V_drew)); exact (Kd.V_mono (Kd.V_far (p := ⟨gb692, 2, none⟩) (Kd.V_far (p := ⟨gb692, 1, none⟩) (Kd.V_far (p := ⟨gb692, 0, none⟩) (Kd.V_mono HL691_2.out (fun k_ hk => (⟨hk, hk.2⟩ : _ ∧ k_ ≠ gb692))) (fun _ hk => hk.2) (.int .i64 ((rd_T62 t687 x29_1).f0))) (fun _ hk => hk.2) (.int .i64 ((rd_T62 t687 x29_1).f1))) (fun _ hk => hk.2) (.slice A691_2 ((rd_T62 t687 x29_1).f2).length c691_2)) (fun _ h_ => h_.1)))).2.2) | (with_reducible refine Kd.C_alloc ?_ _) | (with_reducible refine Kd.C_drewN ?_ _) | (with_reducible refine Kd.C_drew ?_))); (case side2 => exact HC691_2.out); rintro e w23 ⟨v694, rfl, ho0, hb⟩; refine ⟨_, rfl, ?_⟩; have n0_ := ab_ (Kd.N_elder' (by (with_reducible repeat (first | apply Kd.N_alloc | apply Kd.N_drewN | apply Kd.N_drew)); exact (Kd.N_mono (Kd.N_far (p := ⟨gb692, 2, none⟩) (Kd.N_far (p := ⟨gb692, 1, none⟩) (Kd.N_far (p := ⟨gb692, 0, none⟩) (Kd.N_mono HO_8.out (fun k_ hk => (⟨hk, hk.2⟩ : _ ∧ k_ ≠ gb692))) (fun _ hk => hk.2) (.int .i64 ((rd_T62 t687 x29_1).f0))) (fun _ hk => hk.2) (.int .i64 ((rd_T62 t687 x29_1).f1))) (fun _ hk => hk.2) (.slice A691_2 ((rd_T62 t687 x29_1).f2).length c691_2)) (fun _ h_ => h_.1))) (Kd.R_base ho0) hb); have n1_ := ab_ (Kd.N_elder' (by (with_reducible repeat (first | apply Kd.N_alloc | apply Kd.N_drewN | apply Kd.N_drew)); exact (Kd.N_mono (Kd.N_far (p := ⟨gb692, 2, none⟩) (Kd.N_far (p := ⟨gb692, 1, none⟩) (Kd.N_far (p := ⟨gb692, 0, none⟩) (Kd.N_mono HO_27.out (fun k_ hk => (⟨hk, hk.2⟩ : _ ∧ k_ ≠ gb692))) (fun _ hk => hk.2) (.int .i64 ((rd_T62 t687 x29_1).f0))) (fun _ hk => hk.2) (.int .i64 ((rd_T62 t687 x29_1).f1))) (fun _ hk => hk.2) (.slice A691_2 ((rd_T62 t687 x29_1).f2).length c691_2)) (fun _ h_ => h_.1))) (Kd.R_base ho0) hb); have n2_ := ab_ (Kd.N_elder' (by (with_reducible repeat (first | apply Kd.N_alloc | apply Kd.N_drewN | apply Kd.N_drew)); exact (Kd.N_mono (Kd.N_far (p := ⟨gb692, 2, none⟩) (Kd.N_far (p := ⟨gb692, 1, none⟩) (Kd.N_far (p := ⟨gb692, 0, none⟩) (Kd.N_mono HO_687002.out (fun k_ hk => (⟨hk, hk.2⟩ : _ ∧ k_ ≠ gb692))) (fun _ hk => hk.2) (.int .i64 ((rd_T62 t687 x29_1).f0))) (fun _ hk => hk.2) (.int .i64 ((rd_T62 t687 x29_1).f1))) (fun _ hk => hk.2) (.slice A691_2 ((rd_T62 t687 x29_1).f2).length c691_2)) (fun _ h_ => h_.1))) (Kd.R_base ho0) hb); have n3_ := ab_ (Kd.V_elder' (by (with_reducible repeat (first | apply Kd.V_alloc | apply Kd.V_drewN | apply Kd.V_drew)); exact (Kd.V_mono (Kd.V_far (p := ⟨gb692, 2, none⟩) (Kd.V_far (p := ⟨gb692, 1, none⟩) (Kd.V_far (p := ⟨gb692, 0, none⟩) (Kd.V_mono HL691_2.out (fun k_ hk => (⟨hk, hk.2⟩ : _ ∧ k_ ≠ gb692))) (fun _ hk => hk.2) (.int .i64 ((rd_T62 t687 x29_1).f0))) (fun _ hk => hk.2) (.int .i64 ((rd_T62 t687 x29_1).f1))) (fun _ hk => hk.2) (.slice A691_2 ((rd_T62 t687 x29_1).f2).length c691_2)) (fun _ h_ => h_.1))) (Kd.R_base ho0) hb); have n4_ := ab_ (Kd.R_lower (Kd.R_newM (M := fun k_ => (w.heap.size ≤ k_)) ho0 (below_size (by repeat (first | (with_reducible first | exact HB.out | apply ai_ | apply ag_ | apply ah_ | refine af_ ?_ GE686.out | refine af_ ?_ GE692.out) | exact HB.out))) (fun k_ h_ => h_)) (below_size (by repeat (first | (with_reducible first | exact HB.out | apply ai_ | apply ag_ | apply ah_ | refine af_ ?_ GE686.out | refine af_ ?_ GE692.out) | exact HB.out)))); have n5_ := ab_ (blk_below (g := gb686) (o := .cells #[.int .i64 t680, .int .i64 t681, .slice Ao9 t682.length co9] 62 (0, 0)) (by (with_reducible repeat (first | refine ac_ ?_ _ | refine ae_ ?_ | refine ad_ ?_ _)); refine blk_far ?_ NB686_692.out _; (with_reducible repeat (first | refine ac_ ?_ _ | refine ae_ ?_ | refine ad_ ?_ _)); refine blk_far ?_ NB686_692.out _; (with_reducible repeat (first | refine ac_ ?_ _ | refine ae_ ?_ | refine ad_ ?_ _)); refine blk_far ?_ NB686_692.out _; (with_reducible repeat (first | refine ac_ ?_ _ | refine ae_ ?_ | refine ad_ ?_ _)); exact BK686.out) hb); have n6_ := ab_ (Kd.C_below ((Kd.V_reads' (by (with_reducible repeat (first | apply Kd.V_alloc | apply Kd.V_drewN | apply Kd.V_drew)); exact (Kd.V_mono (Kd.V_far (p := ⟨gb692, 2, none⟩) (Kd.V_far (p := ⟨gb692, 1, none⟩) (Kd.V_far (p := ⟨gb692, 0, none⟩) (Kd.V_mono HL691_2.out (fun k_ hk => (⟨hk, hk.2⟩ : _ ∧ k_ ≠ gb692))) (fun _ hk => hk.2) (.int .i64 ((rd_T62 t687 x29_1).f0))) (fun _ hk => hk.2) (.int .i64 ((rd_T62 t687 x29_1).f1))) (fun _ hk => hk.2) (.slice A691_2 ((rd_T62 t687 x29_1).f2).length c691_2)) (fun _ h_ => h_.1)))).2.2) hb); have n7_ := ab_ (blk_below (g := gb692) (o := .cells #[.int .i64 ((rd_T62 t687 x29_1).f0), .int .i64 ((rd_T62 t687 x29_1).f1), .slice A691_2 ((rd_T62 t687 x29_1).f2).length c691_2] 62 (0, 0)) (by (with_reducible repeat (first | refine ac_ ?_ _ | refine ae_ ?_ | refine ad_ ?_ _)); refine blk_put (cs := #[.int .i64 ((rd_T62 t687 x29_1).f0), .int .i64 ((rd_T62 t687 x29_1).f1), .slice none 0 0]) ?_ 2 _ rfl; (with_reducible repeat (first | refine ac_ ?_ _ | refine ae_ ?_ | refine ad_ ?_ _)); refine blk_put (cs := #[.int .i64 ((rd_T62 t687 x29_1).f0), .int .i64 0, .slice none 0 0]) ?_ 1 _ rfl; (with_reducible repeat (first | refine ac_ ?_ _ | refine ae_ ?_ | refine ad_ ?_ _)); refine blk_put (cs := #[.int .i64 0, .int .i64 0, .slice none 0 0]) ?_ 0 _ rfl; (with_reducible repeat (first | refine ac_ ?_ _ | refine ae_ ?_ | refine ad_ ?_ _)); exact BK692.out) hb); have n8_ := ab_ (ap_ (by repeat (first | (with_reducible first | exact HB.out | apply ai_ | apply ag_ | apply ah_ | refine af_ ?_ GE686.out | refine af_ ?_ GE692.out) | exact HB.out)) hb); clear HO_8; clear HO_27; clear HO_687002; clear HL691_2; clear BK686; clear HR691_2; clear BK692; clear HB; have HO_8 := n0_; have HO_27 := n1_; have HO_687002 := n2_; have HL691_2 := n3_; have HO695 := n4_; have BK686 := n5_; have HR691_2 := n6_; have BK692 := n7_; have HB := n8_; clear n0_ n1_ n2_ n3_ n4_ n5_ n6_ n7_ n8_; (try clear hb); (try clear hb2); (try clear hk); (try clear hi); (try clear ho0); obtain ⟨Ao25, co25, eo25⟩ := Kd.R_slice HO695.out; subst eo25) | ((with_reducible refine gate_builtin (b := .append) (xs := #[.tmp 40, .tmp 42]) rfl ?_); at_builtin; refine Kd.N_append (Kd.slice 66 k66) (w0 := w) w.heap.size rfl (.tmp 40) (.tmp 42) 41 25 (.slice none 0 0) 24 rfl Try.underlying41 info25 rfl (by decide) (by omega) u8 x8_1 t693 [.slice Ao25 t693.length co25] (fun k_ => (w.heap.size ≤ k_) ∧ some k_ ≠ (.slice (some ad691) t687.length co13 : Value).ownBlock ∧ some k_ ≠ (.slice Ao9 t682.length co9 : Value).ownBlock ∧ k_ ≠ gb686 ∧ k_ ≠ gb692) (fun k_ => ((fun k_ => (w.heap.size ≤ k_) ∧ some k_ ≠ (.slice (some ad691) t687.length co13 : Value).ownBlock ∧ some k_ ≠ (.slice Ao9 t682.length co9 : Value).ownBlock ∧ k_ ≠ gb686 ∧ k_ ≠ gb692)) k_ ∧ some k_ ≠ (u8 : Value).ownBlock) rfl rfl ?aP (fun _ hk => hk) ?aF ?aO ?aB ?aS ?aL ?_; (case aP => exact (Kd.FK_slice_mk (Kd.R_reads' (Kd.R_mono (ok' := (fun k_ => ((fun k_ => (w.heap.size ≤ k_) ∧ some k_ ≠ (.slice (some ad691) t687.length co13 : Value).ownBlock ∧ some k_ ≠ (.slice Ao9 t682.length co9 : Value).ownBlock ∧ k_ ≠ gb686 ∧ k_ ≠ gb692)) k_ ∧ some k_ ≠ (u8 : Value).ownBlock)) (Kd.R_types (Kd.R_types (Kd.R_apart' (Kd.R_apart' (Kd.R_apart' (HO695.out) (Kd.N_typed HO_27.out) (by decide)) (Kd.N_typed HO_687002.out) (by decide)) (Kd.N_typed HO_8.out) (by decide)) BK686.out (by decide)) BK692.out (by decide)) (fun k_ hk => ⟨⟨hk.1.1.1.1.1.1, ⟨hk.1.1.1.1.2, ⟨hk.1.1.1.2, ⟨hk.1.2, hk.2⟩⟩⟩⟩, hk.1.1.2⟩))).2.1 (Kd.R_F (Kd.R_mono (ok' := (fun k_ => ((fun k_ => (w.heap.size ≤ k_) ∧ some k_ ≠ (.slice (some ad691) t687.length co13 : Value).ownBlock ∧ some k_ ≠ (.slice Ao9 t682.length co9 : Value).ownBlock ∧ k_ ≠ gb686 ∧ k_ ≠ gb692)) k_ ∧ some k_ ≠ (u8 : Value).ownBlock)) (Kd.R_types (Kd.R_types (Kd.R_apart' (Kd.R_apart' (Kd.R_apart' (HO695.out) (Kd.N_typed HO_27.out) (by decide)) (Kd.N_typed HO_687002.out) (by decide)) (Kd.N_typed HO_8.out) (by decide)) BK686.out (by decide)) BK692.out (by decide)) (fun k_ hk => ⟨⟨hk.1.1.1.1.1.1, ⟨hk.1.1.1.1.2, ⟨hk.1.1.1.2, ⟨hk.1.2, hk.2⟩⟩⟩⟩, hk.1.1.2⟩))))); (case aB => exact (by repeat (first | (with_reducible first | exact HB.out | apply ai_ | apply ag_ | apply ah_ | refine af_ ?_ GE686.out | refine af_ ?_ GE692.out) | exact HB.out))); (case aF => exact (fun k_ hk => ⟨(Nat.le_trans (below_size (by repeat (first | (with_reducible first | exact HB.out | apply ai_ | apply ag_ | apply ah_ | refine af_ ?_ GE686.out | refine af_ ?_ GE692.out) | exact HB.out))) hk), Kd.fresh' (Kd.N_lt (by (with_reducible repeat (first | apply Kd.N_alloc | apply Kd.N_drewN | apply Kd.N_drew)); exact HO_27.out)) k_ hk, Kd.fresh' (Kd.N_lt (by (with_reducible repeat (first | apply Kd.N_alloc | apply Kd.N_drewN | apply Kd.N_drew)); exact HO_687002.out)) k_ hk, Kd.freshB (g := gb686) (o := .cells #[.int .i64 t680, .int .i64 t681, .slice Ao9 t682.length co9] 62 (0, 0)) (by (with_reducible repeat (first | refine ac_ ?_ _ | refine ae_ ?_ | refine ad_ ?_ _)); exact BK686.out) k_ hk, Kd.freshB (g := gb692) (o := .cells #[.int .i64 ((rd_T62 t687 x29_1).f0), .int .i64 ((rd_T62 t687 x29_1).f1), .slice A691_2 ((rd_T62 t687 x29_1).f2).length c691_2] 62 (0, 0)) (by (with_reducible repeat (first | refine ac_ ?_ _ | refine ae_ ?_ | refine ad_ ?_ _)); exact BK692.out) k_ hk⟩)); (case aO => exact (by (with_reducible repeat (first | apply Kd.N_alloc | apply Kd.N_drewN | apply Kd.N_drew)); exact Kd.N_mono HO_8.out (fun _ hk => ⟨hk.1.1.1, ⟨hk.1.1.2.1, ⟨hk.1.1.2.2.1, ⟨hk.1.1.2.2.2, hk.1.2⟩⟩⟩⟩))); (case aS => exact (below_size (by repeat (first | (with_reducible first | exact HB.out | apply ai_ | apply ag_ | apply ah_ | refine af_ ?_ GE686.out | refine af_ ?_ GE692.out) | exact HB.out)))); (case aL => have := LMc19.out; omega); intro v698 w24 ho hb hg hat; rw [← Ny697.out] at ho; have n0_ := ab_ (Kd.N_afterv (ok := (fun k_ => (w.heap.size ≤ k_) ∧ some k_ ≠ (.slice Ao25 t693.length co25 : Value).ownBlock ∧ k_ ≠ gb686 ∧ k_ ≠ gb692)) (by (with_reducible repeat (first | apply Kd.N_alloc | apply Kd.N_drewN | apply Kd.N_drew)); exact Kd.N_mono HO_27.out (fun _ hk => ⟨⟨hk.1.1.1, ⟨hk.2, ⟨hk.1.1.2.2, hk.1.2⟩⟩⟩, hk.1.1.2.1⟩)) hg hat); have n1_ := ab_ (Kd.N_afterv (ok := (fun k_ => (w.heap.size ≤ k_) ∧ some k_ ≠ (.slice (some ad691) t687.length co13 : Value).ownBlock ∧ some k_ ≠ (.slice Ao25 t693.length co25 : Value).ownBlock ∧ k_ ≠ gb686 ∧ k_ ≠ gb692)) (by (with_reducible repeat (first | apply Kd.N_alloc | apply Kd.N_drewN | apply Kd.N_drew)); exact Kd.N_mono HO_687002.out (fun _ hk => ⟨⟨hk.1.1.1, ⟨hk.1.1.2.2.1, ⟨hk.2, ⟨hk.1.1.2.2.2, hk.1.2⟩⟩⟩⟩, hk.1.1.2.1⟩)) hg hat); have n2_ := ab_ (blk_grown (g := gb686) (o := .cells #[.int .i64 t680, .int .i64 t681, .slice Ao9 t682.length co9] 62 (0, 0)) (by (with_reducible repeat (first | refine ac_ ?_ _ | refine ae_ ?_ | refine ad_ ?_ _)); exact BK686.out) hg (Kd.N_ne HO_8.out BK686.out (by decide))); have n3_ := ab_ (Kd.V_afterv (ok := (fun k_ => (w.heap.size ≤ k_) ∧ some k_ ≠ (.slice (some ad691) t687.length co13 : Value).ownBlock ∧ some k_ ≠ (.slice Ao25 t693.length co25 : Value).ownBlock ∧ k_ ≠ gb686 ∧ k_ ≠ gb692)) (by (with_reducible repeat (first | apply Kd.V_alloc | apply Kd.V_drewN | apply Kd.V_drew)); exact Kd.V_mono HL691_2.out (fun _ hk => ⟨⟨hk.1.1.1.1, ⟨hk.1.1.2, ⟨hk.2, ⟨hk.1.1.1.2.2, hk.1.2⟩⟩⟩⟩, hk.1.1.1.2.1⟩)) hg hat); have n4_ := ab_ (blk_grown (g := gb692) (o := .cells #[.int .i64 ((rd_T62 t687 x29_1).f0), .int .i64 ((rd_T62 t687 x29_1).f1), .slice A691_2 ((rd_T62 t687 x29_1).f2).length c691_2] 62 (0, 0)) (by (with_reducible repeat (first | refine ac_ ?_ _ | refine ae_ ?_ | refine ad_ ?_ _)); exact BK692.out) hg (Kd.N_ne HO_8.out BK692.out (by decide))); have n5_ := ab_ (hb); have n6_ := ab_ (ho); clear HO_27; clear HO_687002; clear BK686; clear HL691_2; clear BK692; clear HB; clear HO_8; clear HO695; have HO_27 := n0_; have HO_687002 := n1_; have BK686 := n2_; have HL691_2 := n3_; have BK692 := n4_; have HB := n5_; have HO699 := n6_; clear n0_ n1_ n2_ n3_ n4_ n5_ n6_; clear ho hb hg hat))
                    go_roundg k1
                    case measure => have := HK1.out; omega
                    case rel => exact ⟨(y697), (wrap64 (x29_1 + 1)), (by first | rfl | (simp; done) | (simp [*]; done)), H', ⟨by have := HK1.out; omega⟩, ⟨by (with_reducible repeat (first | apply Kd.N_alloc | apply Kd.N_drewN | apply Kd.N_drew)); exact Kd.N_mono HO699.out (fun _ hk => ⟨hk.1, ⟨hk.2.1, ⟨hk.2.2.1, hk.2.2.2.1⟩⟩⟩)⟩, ⟨by (with_reducible repeat (first | apply Kd.N_alloc | apply Kd.N_drewN | apply Kd.N_drew)); exact Kd.N_mono HO_27.out (fun _ hk => ⟨hk.1.1, ⟨hk.2, hk.1.2.2.1⟩⟩)⟩, ⟨by (with_reducible repeat (first | apply Kd.N_alloc | apply Kd.N_drewN | apply Kd.N_drew)); exact Kd.N_mono HO_687002.out (fun _ hk => ⟨hk.1.1, ⟨hk.2, ⟨hk.1.2.1, hk.1.2.2.2.1⟩⟩⟩)⟩, ⟨by (with_reducible repeat (first | refine ac_ ?_ _ | refine ae_ ?_ | refine ad_ ?_ _)); exact BK686.out⟩, ⟨by repeat (first | (with_reducible first | exact HB.out | apply ai_ | apply ag_ | apply ah_ | refine af_ ?_ GE686.out | refine af_ ?_ GE692.out) | exact HB.out)⟩⟩
                  · rw [if_neg c19] at H
                    exact absurd H (by simp)
                · replace c18 := Bool.eq_false_iff.mpr c18
                  subst c18
                  have H1 : (some (([] : List (List (S66))), false)) = some (r1, r2) := by rw [if_neg (show ¬ (false = true) by decide)] at H; exact H
                  clear H
                  have H := H1
                  clear H1
                  simp only [Option.some.injEq, Prod.mk.injEq] at H
                  obtain ⟨rfl, rfl⟩ := H
                  have p691 : 0 ≤ (x29_1 : Int) := of_decide_eq_true (by first | (with_reducible assumption) | assumption)
                  have q691 : x29_1 < (t687.length : Int) := of_decide_eq_true (by first | (with_reducible assumption) | assumption)
                  obtain ⟨ad691, A691_2, c691_2, e691, hx691_0, hx691_1, hx691_2, hl691_2, hi691_2⟩ := at_T62 (Kd.N_reads' HO_27.out).2.2 x29_1 p691 q691
                  cases e691
                  obtain ⟨ce691, hce691, hMe691, hcc691⟩ := Kd.N_get HO_27.out z62 x29_1 p691 (by first | exact q691 | exact of_decide_eq_true (by first | (with_reducible assumption) | assumption) | (have e_ := (Kd.N_reads' HO_27.out).1; omega))
                  obtain ⟨ua691_2, uc691_2, rfl, ul691_2, ge691_2⟩ := k62_openF hMe691
                  have hv691_2 := hcc691 2 _ rfl
                  rw [add_field _ _ 2 (by omega)] at hv691_2
                  replace hv691_2 := Option.some.inj (hv691_2.symm.trans hx691_2)
                  injection hv691_2 with hva_ hvn_ hvc_
                  rw [hva_] at ge691_2
                  rw [hvc_] at ul691_2
                  have HL691_2 := ab_ (show Kd.V k62 62 _ w.heap.size _ _ ((rd_T62 t687 x29_1).f2) from Kd.V_mk ul691_2 ge691_2)
                  clear hva_ hvn_ hvc_ ge691_2 ul691_2
                  clear hcc691 hce691
                  have HR691_2 := ab_ hi691_2
                  have HC691_2 := ab_ hl691_2
                  clear hi691_2 hl691_2
                  replace p691 := eq_true p691
                  replace q691 := eq_true q691
                  go_wp2_with (first | ((with_reducible refine gate_dst (N := 10) rfl ?_); refine box_event ?hg (N := 10) ?hd (cs := #[.int .i64 0, .int .i64 0, .slice none 0 0]) (t := 62) ?hr ?_; (case hd => rfl); (case hg => rfl); (case hr => first | (go_simp; done) | (go_simp; rfl)); intro gb692 hg w26 hbox hb; have n0_ := ab_ (Kd.N_below (Kd.N_elderB (by (with_reducible repeat (first | apply Kd.N_alloc | apply Kd.N_drewN | apply Kd.N_drew)); exact HO_8.out) gb692 (Nat.le_of_eq hg.symm)) hb); have n1_ := ab_ (Kd.N_below (Kd.N_elderB (by (with_reducible repeat (first | apply Kd.N_alloc | apply Kd.N_drewN | apply Kd.N_drew)); exact HO_27.out) gb692 (Nat.le_of_eq hg.symm)) hb); have n2_ := ab_ (Kd.N_below (Kd.N_elderB (by (with_reducible repeat (first | apply Kd.N_alloc | apply Kd.N_drewN | apply Kd.N_drew)); exact HO_687002.out) gb692 (Nat.le_of_eq hg.symm)) hb); have n3_ := ab_ (Kd.V_below (Kd.V_elderB (by (with_reducible repeat (first | apply Kd.V_alloc | apply Kd.V_drewN | apply Kd.V_drew)); exact HL691_2.out) gb692 (Nat.le_of_eq hg.symm)) hb); have n4_ := ab_ (blk_below (g := gb686) (o := .cells #[.int .i64 t680, .int .i64 t681, .slice Ao9 t682.length co9] 62 (0, 0)) (by (with_reducible repeat (first | refine ac_ ?_ _ | refine ae_ ?_ | refine ad_ ?_ _)); exact BK686.out) hb); have n5_ := ab_ (Kd.C_below (by repeat (first | (with_reducible exact HR691_2.out) | (with_reducible refine Kd.C_alloc ?_ _) | (with_reducible refine Kd.C_drewN ?_ _) | (with_reducible refine Kd.C_drew ?_) | exact HR691_2.out)) hb); have n6_ := ab_ (ap_ (by repeat (first | (with_reducible first | exact HB.out | apply ai_ | apply ag_ | apply ah_ | refine af_ ?_ GE686.out) | exact HB.out)) hb); have n7_ := ab_ (hbox); have n8_ := ab_ ((by rw [hg]; exact (below_size (by repeat (first | (with_reducible first | exact HB.out | apply ai_ | apply ag_ | apply ah_ | refine af_ ?_ GE686.out) | exact HB.out))) : w.heap.size ≤ gb692)); have n9_ := ab_ ((by rw [hg]; exact (below_size (by repeat (first | (with_reducible first | exact HB.out | apply ai_ | apply ag_ | apply ah_ | refine af_ ?_ GE686.out) | exact HB.out))) : w.heap.size ≤ gb692)); have n10_ := ab_ ((by rw [hg]; exact ak_ (blk_lt (g := gb686) (o := .cells #[.int .i64 t680, .int .i64 t681, .slice Ao9 t682.length co9] 62 (0, 0)) (by (with_reducible repeat (first | refine ac_ ?_ _ | refine ae_ ?_ | refine ad_ ?_ _)); exact BK686.out)) : gb686 ≠ gb692)); have n11_ := ab_ ((by rw [hg]; exact Nat.ne_of_gt (blk_lt (g := gb686) (o := .cells #[.int .i64 t680, .int .i64 t681, .slice Ao9 t682.length co9] 62 (0, 0)) (by (with_reducible repeat (first | refine ac_ ?_ _ | refine ae_ ?_ | refine ad_ ?_ _)); exact BK686.out)) : gb692 ≠ gb686)); clear HO_8; clear HO_27; clear HO_687002; clear HL691_2; clear BK686; clear HR691_2; clear HB; have HO_8 := n0_; have HO_27 := n1_; have HO_687002 := n2_; have HL691_2 := n3_; have BK686 := n4_; have HR691_2 := n5_; have HB := n6_; have BK692 := n7_; have GW692 := n8_; have GE692 := n9_; have NB686_692 := n10_; have NB692_686 := n11_; clear n0_ n1_ n2_ n3_ n4_ n5_ n6_ n7_ n8_ n9_ n10_ n11_; clear hb hbox hg; have hnb27 := NB692_686.out; have hnc27 := NB686_692.out; have hcz28_0 : w26.cell? ⟨gb692, 0, none⟩ = some (.int .i64 0) := (an_ BK692.out 0).trans rfl; have hcz28_1 : w26.cell? ⟨gb692, 1, none⟩ = some (.int .i64 0) := (an_ BK692.out 1).trans rfl; have hcz28_2 : w26.cell? ⟨gb692, 2, none⟩ = some (.slice none 0 0) := (an_ BK692.out 2).trans rfl; have hfz28_0 := am_ BK692.out 0; have hfz28_1 := am_ BK692.out 1; have hfz28_2 := am_ BK692.out 2) | ((with_reducible refine gate_callee (f := 61) rfl ?_); refine goesL_ (some 35) rfl rfl Try.func61 (by kernel_rfl) rfl #[.agg #[.int .i64 ((rd_T62 t687 x29_1).f0), .int .i64 ((rd_T62 t687 x29_1).f1), .slice A691_2 ((rd_T62 t687 x29_1).f2).length c691_2]] rfl (by (try simp only [List.map_toArray, List.map_cons, List.map_nil]); first | done | rfl | (simp only [List.length_drop, List.length_take]; rfl)) ?_; (with_reducible refine (spec_l3Tell.calls k1 ((rd_T62 t687 x29_1).f0) ((rd_T62 t687 x29_1).f1) _ _ ((rd_T62 t687 x29_1).f2) t693 false _ ?side1 ?side2 A17.out).mono ?_); (case side1 => repeat (first | exact ((Kd.V_reads' (by (with_reducible repeat (first | apply Kd.V_alloc | apply Kd.V_drewN | apply Kd.V_drew)); exact (Kd.V_mono (Kd.V_far (p := ⟨gb692, 2, none⟩) (Kd.V_far (p := ⟨gb692, 1, none⟩) (Kd.V_far (p := ⟨gb692, 0, none⟩) (Kd.V_mono HL691_2.out (fun k_ hk => (⟨hk, hk.2⟩ : _ ∧ k_ ≠ gb692))) (fun _ hk => hk.2) (.int .i64 ((rd_T62 t687 x29_1).f0))) (fun _ hk => hk.2) (.int .i64 ((rd_T62 t687 x29_1).f1))) (fun _ hk => hk.2) (.slice A691_2 ((rd_T62 t687 x29_1).f2).length c691_2)) (fun _ h_ => h_.1)))).2.2) | (with_reducible refine Kd.C_alloc ?_ _) | (with_reducible refine Kd.C_drewN ?_ _) | (with_reducible refine Kd.C_drew ?_))); (case side2 => exact HC691_2.out); rintro e w29 ⟨v694, rfl, ho0, hb⟩; refine ⟨_, rfl, ?_⟩; have n0_ := ab_ (Kd.N_elder' (by (with_reducible repeat (first | apply Kd.N_alloc | apply Kd.N_drewN | apply Kd.N_drew)); exact (Kd.N_mono (Kd.N_far (p := ⟨gb692, 2, none⟩) (Kd.N_far (p := ⟨gb692, 1, none⟩) (Kd.N_far (p := ⟨gb692, 0, none⟩) (Kd.N_mono HO_8.out (fun k_ hk => (⟨hk, hk.2⟩ : _ ∧ k_ ≠ gb692))) (fun _ hk => hk.2) (.int .i64 ((rd_T62 t687 x29_1).f0))) (fun _ hk => hk.2) (.int .i64 ((rd_T62 t687 x29_1).f1))) (fun _ hk => hk.2) (.slice A691_2 ((rd_T62 t687 x29_1).f2).length c691_2)) (fun _ h_ => h_.1))) (Kd.R_base ho0) hb); have n1_ := ab_ (Kd.N_elder' (by (with_reducible repeat (first | apply Kd.N_alloc | apply Kd.N_drewN | apply Kd.N_drew)); exact (Kd.N_mono (Kd.N_far (p := ⟨gb692, 2, none⟩) (Kd.N_far (p := ⟨gb692, 1, none⟩) (Kd.N_far (p := ⟨gb692, 0, none⟩) (Kd.N_mono HO_27.out (fun k_ hk => (⟨hk, hk.2⟩ : _ ∧ k_ ≠ gb692))) (fun _ hk => hk.2) (.int .i64 ((rd_T62 t687 x29_1).f0))) (fun _ hk => hk.2) (.int .i64 ((rd_T62 t687 x29_1).f1))) (fun _ hk => hk.2) (.slice A691_2 ((rd_T62 t687 x29_1).f2).length c691_2)) (fun _ h_ => h_.1))) (Kd.R_base ho0) hb); have n2_ := ab_ (Kd.N_elder' (by (with_reducible repeat (first | apply Kd.N_alloc | apply Kd.N_drewN | apply Kd.N_drew)); exact (Kd.N_mono (Kd.N_far (p := ⟨gb692, 2, none⟩) (Kd.N_far (p := ⟨gb692, 1, none⟩) (Kd.N_far (p := ⟨gb692, 0, none⟩) (Kd.N_mono HO_687002.out (fun k_ hk => (⟨hk, hk.2⟩ : _ ∧ k_ ≠ gb692))) (fun _ hk => hk.2) (.int .i64 ((rd_T62 t687 x29_1).f0))) (fun _ hk => hk.2) (.int .i64 ((rd_T62 t687 x29_1).f1))) (fun _ hk => hk.2) (.slice A691_2 ((rd_T62 t687 x29_1).f2).length c691_2)) (fun _ h_ => h_.1))) (Kd.R_base ho0) hb); have n3_ := ab_ (Kd.V_elder' (by (with_reducible repeat (first | apply Kd.V_alloc | apply Kd.V_drewN | apply Kd.V_drew)); exact (Kd.V_mono (Kd.V_far (p := ⟨gb692, 2, none⟩) (Kd.V_far (p := ⟨gb692, 1, none⟩) (Kd.V_far (p := ⟨gb692, 0, none⟩) (Kd.V_mono HL691_2.out (fun k_ hk => (⟨hk, hk.2⟩ : _ ∧ k_ ≠ gb692))) (fun _ hk => hk.2) (.int .i64 ((rd_T62 t687 x29_1).f0))) (fun _ hk => hk.2) (.int .i64 ((rd_T62 t687 x29_1).f1))) (fun _ hk => hk.2) (.slice A691_2 ((rd_T62 t687 x29_1).f2).length c691_2)) (fun _ h_ => h_.1))) (Kd.R_base ho0) hb); have n4_ := ab_ (Kd.R_lower (Kd.R_newM (M := fun k_ => (w.heap.size ≤ k_)) ho0 (below_size (by repeat (first | (with_reducible first | exact HB.out | apply ai_ | apply ag_ | apply ah_ | refine af_ ?_ GE686.out | refine af_ ?_ GE692.out) | exact HB.out))) (fun k_ h_ => h_)) (below_size (by repeat (first | (with_reducible first | exact HB.out | apply ai_ | apply ag_ | apply ah_ | refine af_ ?_ GE686.out | refine af_ ?_ GE692.out) | exact HB.out)))); have n5_ := ab_ (blk_below (g := gb686) (o := .cells #[.int .i64 t680, .int .i64 t681, .slice Ao9 t682.length co9] 62 (0, 0)) (by (with_reducible repeat (first | refine ac_ ?_ _ | refine ae_ ?_ | refine ad_ ?_ _)); refine blk_far ?_ NB686_692.out _; (with_reducible repeat (first | refine ac_ ?_ _ | refine ae_ ?_ | refine ad_ ?_ _)); refine blk_far ?_ NB686_692.out _; (with_reducible repeat (first | refine ac_ ?_ _ | refine ae_ ?_ | refine ad_ ?_ _)); refine blk_far ?_ NB686_692.out _; (with_reducible repeat (first | refine ac_ ?_ _ | refine ae_ ?_ | refine ad_ ?_ _)); exact BK686.out) hb); have n6_ := ab_ (Kd.C_below ((Kd.V_reads' (by (with_reducible repeat (first | apply Kd.V_alloc | apply Kd.V_drewN | apply Kd.V_drew)); exact (Kd.V_mono (Kd.V_far (p := ⟨gb692, 2, none⟩) (Kd.V_far (p := ⟨gb692, 1, none⟩) (Kd.V_far (p := ⟨gb692, 0, none⟩) (Kd.V_mono HL691_2.out (fun k_ hk => (⟨hk, hk.2⟩ : _ ∧ k_ ≠ gb692))) (fun _ hk => hk.2) (.int .i64 ((rd_T62 t687 x29_1).f0))) (fun _ hk => hk.2) (.int .i64 ((rd_T62 t687 x29_1).f1))) (fun _ hk => hk.2) (.slice A691_2 ((rd_T62 t687 x29_1).f2).length c691_2)) (fun _ h_ => h_.1)))).2.2) hb); have n7_ := ab_ (blk_below (g := gb692) (o := .cells #[.int .i64 ((rd_T62 t687 x29_1).f0), .int .i64 ((rd_T62 t687 x29_1).f1), .slice A691_2 ((rd_T62 t687 x29_1).f2).length c691_2] 62 (0, 0)) (by (with_reducible repeat (first | refine ac_ ?_ _ | refine ae_ ?_ | refine ad_ ?_ _)); refine blk_put (cs := #[.int .i64 ((rd_T62 t687 x29_1).f0), .int .i64 ((rd_T62 t687 x29_1).f1), .slice none 0 0]) ?_ 2 _ rfl; (with_reducible repeat (first | refine ac_ ?_ _ | refine ae_ ?_ | refine ad_ ?_ _)); refine blk_put (cs := #[.int .i64 ((rd_T62 t687 x29_1).f0), .int .i64 0, .slice none 0 0]) ?_ 1 _ rfl; (with_reducible repeat (first | refine ac_ ?_ _ | refine ae_ ?_ | refine ad_ ?_ _)); refine blk_put (cs := #[.int .i64 0, .int .i64 0, .slice none 0 0]) ?_ 0 _ rfl; (with_reducible repeat (first | refine ac_ ?_ _ | refine ae_ ?_ | refine ad_ ?_ _)); exact BK692.out) hb); have n8_ := ab_ (ap_ (by repeat (first | (with_reducible first | exact HB.out | apply ai_ | apply ag_ | apply ah_ | refine af_ ?_ GE686.out | refine af_ ?_ GE692.out) | exact HB.out)) hb); clear HO_8; clear HO_27; clear HO_687002; clear HL691_2; clear BK686; clear HR691_2; clear BK692; clear HB; have HO_8 := n0_; have HO_27 := n1_; have HO_687002 := n2_; have HL691_2 := n3_; have HO695 := n4_; have BK686 := n5_; have HR691_2 := n6_; have BK692 := n7_; have HB := n8_; clear n0_ n1_ n2_ n3_ n4_ n5_ n6_ n7_ n8_; (try clear hb); (try clear hb2); (try clear hk); (try clear hi); (try clear ho0)))
                  go_ret2
                  exact ⟨_, by first | rfl | (simp [errW_none, errW_some] <;> rfl) | (simp [*, errW_none, errW_some] <;> rfl), by first | exact Kd.S_nil _ _ _ _ _ | exact Kd.N_nil _ _ _ _ _ | exact Kd.V_nil _ _ _ _ _ | exact Kd.Q_nil _ _ _ _ _ | exact Kd.R_nil _ _ _ _ _, by repeat (first | (with_reducible first | exact HB.out | apply ai_ | apply ag_ | apply ah_ | refine af_ ?_ GE686.out | refine af_ ?_ GE692.out) | exact HB.out)⟩
              · rw [if_neg c16] at H
                exact absurd H (by simp)
            · rw [if_neg c15] at H
              exact absurd H (by simp)
          · rw [if_neg c14] at H
            have c14b0 : decide (x29_1 < (t687.length : Int)) = false := decide_eq_false c14
            clear c14
            simp only [Option.some.injEq, Prod.mk.injEq] at H
            obtain ⟨rfl, rfl⟩ := H
            go_wp2
            go_ret2
            exact ⟨_, by first | rfl | (simp [errW_none, errW_some] <;> rfl) | (simp [*, errW_none, errW_some] <;> rfl), by (with_reducible repeat (first | apply Kd.N_alloc | apply Kd.N_drewN | apply Kd.N_drew)); exact Kd.N_mono HO_8.out (fun _ hk => hk.1), by repeat (first | (with_reducible first | exact HB.out | apply ai_ | apply ag_ | apply ah_ | refine af_ ?_ GE686.out) | exact HB.out)⟩
    · replace c5 := Bool.eq_false_iff.mpr c5
      subst c5
      have H1 : (some (([] : List (List (S66))), false)) = some (r1, r2) := by rw [if_neg (show ¬ (false = true) by decide)] at H; exact H
      clear H
      have H := H1
      clear H1
      simp only [Option.some.injEq, Prod.mk.injEq] at H
      obtain ⟨rfl, rfl⟩ := H
      go_enter Try.func32, Try.ntmps32
      go_wp2_with (first | ((with_reducible refine gate_callee (f := 47) rfl ?_); refine goesL_ (some 15) rfl rfl Try.func47 (by kernel_rfl) rfl #[.slice A0 l0.length c0] rfl (by (try simp only [List.map_toArray, List.map_cons, List.map_nil]); first | done | rfl | (simp only [List.length_drop, List.length_take]; rfl)) ?_; (with_reducible refine (spec_l3Tree.calls k _ _ l0 t680 t681 t682 true _ ?side1 ?side2 A2.out).mono ?_); (case side1 => repeat (first | exact HR0.out | (with_reducible refine Kd.C_alloc ?_ _) | (with_reducible refine Kd.C_drewN ?_ _) | (with_reducible refine Kd.C_drew ?_))); (case side2 => exact HC0.out); rintro e w30 ⟨v683, rfl, ho0, hb⟩; refine ⟨_, rfl, ?_⟩; have n0_ := ab_ (Kd.N_lower (Kd.N_mono (ok' := fun k_ => (w.heap.size ≤ k_)) (Kd.R_N (Kd.R_bound ho0)) (fun k_ hk_ => (Nat.le_trans (below_size (by repeat (first | (with_reducible first | exact HB.out | apply ai_ | apply ag_ | apply ah_) | exact HB.out))) hk_.2.1))) (below_size (by repeat (first | (with_reducible first | exact HB.out | apply ai_ | apply ag_ | apply ah_) | exact HB.out)))); have n1_ := ab_ (ap_ (by repeat (first | (with_reducible first | exact HB.out | apply ai_ | apply ag_ | apply ah_) | exact HB.out)) hb); clear HB; have HO684 := n0_; have HB := n1_; clear n0_ n1_; (try clear hb); (try clear hb2); (try clear hk); (try clear hi); (try clear ho0)) | ((with_reducible refine gate_dst (N := 4) rfl ?_); refine box_event ?hg (N := 4) ?hd (cs := #[.int .i64 0, .int .i64 0, .slice none 0 0]) (t := 62) ?hr ?_; (case hd => rfl); (case hg => rfl); (case hr => first | (go_simp; done) | (go_simp; rfl)); intro gb686 hg w31 hbox hb; have n0_ := ab_ (Kd.N_below (Kd.N_elderB (by (with_reducible repeat (first | apply Kd.N_alloc | apply Kd.N_drewN | apply Kd.N_drew)); exact HO684.out) gb686 (Nat.le_of_eq hg.symm)) hb); have n1_ := ab_ (ap_ (by repeat (first | (with_reducible first | exact HB.out | apply ai_ | apply ag_ | apply ah_) | exact HB.out)) hb); have n2_ := ab_ (hbox); have n3_ := ab_ ((by rw [hg]; exact (below_size (by repeat (first | (with_reducible first | exact HB.out | apply ai_ | apply ag_ | apply ah_) | exact HB.out))) : w.heap.size ≤ gb686)); have n4_ := ab_ ((by rw [hg]; exact (below_size (by repeat (first | (with_reducible first | exact HB.out | apply ai_ | apply ag_ | apply ah_) | exact HB.out))) : w.heap.size ≤ gb686)); clear HO684; clear HB; have HO684 := n0_; have HB := n1_; have BK686 := n2_; have GW686 := n3_; have GE686 := n4_; clear n0_ n1_ n2_ n3_ n4_; clear hb hbox hg; have hcz32_0 : w31.cell? ⟨gb686, 0, none⟩ = some (.int .i64 0) := (an_ BK686.out 0).trans rfl; have hcz32_1 : w31.cell? ⟨gb686, 1, none⟩ = some (.int .i64 0) := (an_ BK686.out 1).trans rfl; have hcz32_2 : w31.cell? ⟨gb686, 2, none⟩ = some (.slice none 0 0) := (an_ BK686.out 2).trans rfl; have hfz32_0 := am_ BK686.out 0; have hfz32_1 := am_ BK686.out 1; have hfz32_2 := am_ BK686.out 2; obtain ⟨Ao33, co33, eo33⟩ := Kd.N_slice HO684.out; subst eo33) | ((with_reducible refine gate_store (t := 62) (p := 4) rfl ?_); refine store_event (t := 62) (p := 4) (v := ?vo_w34) (w1 := (((w31.setCell ⟨gb686, 0, none⟩ (.int .i64 t680)).setCell ⟨gb686, 1, none⟩ (.int .i64 t681)).setCell ⟨gb686, 2, none⟩ (.slice Ao33 t682.length co33))) ?hg ?ho ?hn ?hr ?_; (case ho => rfl); (case hg => rfl); (case hn => rfl); (case hr => first | (go_simp; done) | (go_simp; rfl)); intro w34 hw; have n0_ : Aside0 (Kd.N k62 62 w34 w.heap.size (fun k_ => (w.heap.size ≤ k_) ∧ k_ ≠ gb686) (.slice Ao33 t682.length co33) t682) := ⟨(by rw [hw]; exact (by (with_reducible repeat (first | apply Kd.N_alloc | apply Kd.N_drewN | apply Kd.N_drew)); exact Kd.N_mono (Kd.N_far (p := ⟨gb686, 2, none⟩) (Kd.N_far (p := ⟨gb686, 1, none⟩) (Kd.N_far (p := ⟨gb686, 0, none⟩) (Kd.N_mono HO684.out (fun k_ hk => (⟨hk, hk.2⟩ : _ ∧ k_ ≠ gb686))) (fun _ hk => hk.2) (.int .i64 t680)) (fun _ hk => hk.2) (.int .i64 t681)) (fun _ hk => hk.2) (.slice Ao33 t682.length co33)) (fun _ hk => ⟨hk.1.1, hk.1.2⟩)))⟩; have n1_ : Aside0 (w34.heap[gb686]? = some (.cells #[.int .i64 t680, .int .i64 t681, .slice Ao33 t682.length co33] 62 (0, 0))) := ⟨(by rw [hw]; exact (by (with_reducible repeat (first | refine ac_ ?_ _ | refine ae_ ?_ | refine ad_ ?_ _)); refine blk_put (cs := #[.int .i64 t680, .int .i64 t681, .slice none 0 0]) ?_ 2 _ rfl; (with_reducible repeat (first | refine ac_ ?_ _ | refine ae_ ?_ | refine ad_ ?_ _)); refine blk_put (cs := #[.int .i64 t680, .int .i64 0, .slice none 0 0]) ?_ 1 _ rfl; (with_reducible repeat (first | refine ac_ ?_ _ | refine ae_ ?_ | refine ad_ ?_ _)); refine blk_put (cs := #[.int .i64 0, .int .i64 0, .slice none 0 0]) ?_ 0 _ rfl; (with_reducible repeat (first | refine ac_ ?_ _ | refine ae_ ?_ | refine ad_ ?_ _)); exact BK686.out))⟩; have n2_ : Aside0 (Below w.heap.size w w34) := ⟨(by rw [hw]; exact (by repeat (first | (with_reducible first | exact HB.out | apply ai_ | apply ag_ | apply ah_ | refine af_ ?_ GE686.out) | exact HB.out)))⟩; clear hw; clear HO684; clear BK686; clear HB; have HO684 := n0_; have BK686 := n1_; have HB := n2_; clear n0_ n1_ n2_; have hcz35_0 : w34.cell? ⟨gb686, 0, none⟩ = some (.int .i64 t680) := (an_ BK686.out 0).trans rfl; have hcz35_1 : w34.cell? ⟨gb686, 1, none⟩ = some (.int .i64 t681) := (an_ BK686.out 1).trans rfl; have hcz35_2 : w34.cell? ⟨gb686, 2, none⟩ = some (.slice Ao33 t682.length co33) := (an_ BK686.out 2).trans rfl; have hfz35_0 := am_ BK686.out 0; have hfz35_1 := am_ BK686.out 1; have hfz35_2 := am_ BK686.out 2) | ((with_reducible refine gate_callee (f := 72) rfl ?_); refine goesL_ (some 22) rfl rfl Try.func72 (by kernel_rfl) rfl #[.agg #[.int .i64 t680, .int .i64 t681, .slice Ao33 t682.length co33]] rfl (by (try simp only [List.map_toArray, List.map_cons, List.map_nil]); first | done | rfl | (simp only [List.length_drop, List.length_take]; rfl)) ?_; (with_reducible refine (spec_l4Steps.calls k t680 t681 (fun k_ => ((w.heap.size ≤ k_) ∧ k_ ≠ gb686)) _ _ t682 t687 false _ ?side1 A4.out).mono ?_); (case side1 => exact Kd.N_V (HO684.out)); rintro e w36 ⟨v688, rfl, ho0, hb⟩; refine ⟨_, rfl, ?_⟩; have n0_ := ab_ (Kd.N_elder' (by (with_reducible repeat (first | apply Kd.N_alloc | apply Kd.N_drewN | apply Kd.N_drew)); exact HO684.out) (by first | exact Kd.N_base ho0 | exact Kd.R_base ho0) hb); have n1_ := ab_ (Kd.N_lower (Kd.N_mono (ok' := fun k_ => (w.heap.size ≤ k_) ∧ k_ ≠ gb686) ho0 (fun k_ hk_ => ⟨Or.elim hk_ (fun hs_ => hs_.1) (fun hn_ => (Nat.le_trans (below_size (by repeat (first | (with_reducible first | exact HB.out | apply ai_ | apply ag_ | apply ah_ | refine af_ ?_ GE686.out) | exact HB.out))) hn_)), Or.elim hk_ (fun hs_ => hs_.2) (fun hn_ => (Kd.freshB (g := gb686) (o := .cells #[.int .i64 t680, .int .i64 t681, .slice Ao33 t682.length co33] 62 (0, 0)) (by (with_reducible repeat (first | refine ac_ ?_ _ | refine ae_ ?_ | refine ad_ ?_ _)); exact BK686.out) k_ hn_))⟩)) (below_size (by repeat (first | (with_reducible first | exact HB.out | apply ai_ | apply ag_ | apply ah_ | refine af_ ?_ GE686.out) | exact HB.out)))); have n2_ := ab_ (blk_below (g := gb686) (o := .cells #[.int .i64 t680, .int .i64 t681, .slice Ao33 t682.length co33] 62 (0, 0)) (by (with_reducible repeat (first | refine ac_ ?_ _ | refine ae_ ?_ | refine ad_ ?_ _)); exact BK686.out) hb); have n3_ := ab_ (ap_ (by repeat (first | (with_reducible first | exact HB.out | apply ai_ | apply ag_ | apply ah_ | refine af_ ?_ GE686.out) | exact HB.out)) hb); clear HO684; clear BK686; clear HB; have HO684 := n0_; have HO689 := n1_; have BK686 := n2_; have HB := n3_; clear n0_ n1_ n2_ n3_; (try clear hb); (try clear hb2); (try clear hk); (try clear hi); (try clear ho0)))
      go_ret2
      exact ⟨_, by first | rfl | (simp [errW_none, errW_some] <;> rfl) | (simp [*, errW_none, errW_some] <;> rfl), by first | exact Kd.S_nil _ _ _ _ _ | exact Kd.N_nil _ _ _ _ _ | exact Kd.V_nil _ _ _ _ _ | exact Kd.Q_nil _ _ _ _ _ | exact Kd.R_nil _ _ _ _ _, by repeat (first | (with_reducible first | exact HB.out | apply ai_ | apply ag_ | apply ah_ | refine af_ ?_ GE686.out) | exact HB.out)⟩
  · replace c3 := Bool.eq_false_iff.mpr c3
    subst c3
    have H1 : (some (([] : List (List (S66))), false)) = some (r1, r2) := by rw [if_neg (show ¬ (false = true) by decide)] at H; exact H
    clear H
    have H := H1
    clear H1
    simp only [Option.some.injEq, Prod.mk.injEq] at H
    obtain ⟨rfl, rfl⟩ := H
    go_enter Try.func32, Try.ntmps32
    go_wp2_with (first | ((with_reducible refine gate_callee (f := 47) rfl ?_); refine goesL_ (some 15) rfl rfl Try.func47 (by kernel_rfl) rfl #[.slice A0 l0.length c0] rfl (by (try simp only [List.map_toArray, List.map_cons, List.map_nil]); first | done | rfl | (simp only [List.length_drop, List.length_take]; rfl)) ?_; (with_reducible refine (spec_l3Tree.calls k _ _ l0 t680 t681 t682 false _ ?side1 ?side2 A2.out).mono ?_); (case side1 => repeat (first | exact HR0.out | (with_reducible refine Kd.C_alloc ?_ _) | (with_reducible refine Kd.C_drewN ?_ _) | (with_reducible refine Kd.C_drew ?_))); (case side2 => exact HC0.out); rintro e w37 ⟨v683, rfl, ho0, hb⟩; refine ⟨_, rfl, ?_⟩; have n0_ := ab_ (Kd.N_lower (Kd.N_mono (ok' := fun k_ => (w.heap.size ≤ k_)) (Kd.R_N (Kd.R_bound ho0)) (fun k_ hk_ => (Nat.le_trans (below_size (by repeat (first | (with_reducible first | exact HB.out | apply ai_ | apply ag_ | apply ah_) | exact HB.out))) hk_.2.1))) (below_size (by repeat (first | (with_reducible first | exact HB.out | apply ai_ | apply ag_ | apply ah_) | exact HB.out)))); have n1_ := ab_ (ap_ (by repeat (first | (with_reducible first | exact HB.out | apply ai_ | apply ag_ | apply ah_) | exact HB.out)) hb); clear HB; have HO684 := n0_; have HB := n1_; clear n0_ n1_; (try clear hb); (try clear hb2); (try clear hk); (try clear hi); (try clear ho0)) | ((with_reducible refine gate_dst (N := 4) rfl ?_); refine box_event ?hg (N := 4) ?hd (cs := #[.int .i64 0, .int .i64 0, .slice none 0 0]) (t := 62) ?hr ?_; (case hd => rfl); (case hg => rfl); (case hr => first | (go_simp; done) | (go_simp; rfl)); intro gb686 hg w38 hbox hb; have n0_ := ab_ (Kd.N_below (Kd.N_elderB (by (with_reducible repeat (first | apply Kd.N_alloc | apply Kd.N_drewN | apply Kd.N_drew)); exact HO684.out) gb686 (Nat.le_of_eq hg.symm)) hb); have n1_ := ab_ (ap_ (by repeat (first | (with_reducible first | exact HB.out | apply ai_ | apply ag_ | apply ah_) | exact HB.out)) hb); have n2_ := ab_ (hbox); have n3_ := ab_ ((by rw [hg]; exact (below_size (by repeat (first | (with_reducible first | exact HB.out | apply ai_ | apply ag_ | apply ah_) | exact HB.out))) : w.heap.size ≤ gb686)); have n4_ := ab_ ((by rw [hg]; exact (below_size (by repeat (first | (with_reducible first | exact HB.out | apply ai_ | apply ag_ | apply ah_) | exact HB.out))) : w.heap.size ≤ gb686)); clear HO684; clear HB; have HO684 := n0_; have HB := n1_; have BK686 := n2_; have GW686 := n3_; have GE686 := n4_; clear n0_ n1_ n2_ n3_ n4_; clear hb hbox hg; have hcz39_0 : w38.cell? ⟨gb686, 0, none⟩ = some (.int .i64 0) := (an_ BK686.out 0).trans rfl; have hcz39_1 : w38.cell? ⟨gb686, 1, none⟩ = some (.int .i64 0) := (an_ BK686.out 1).trans rfl; have hcz39_2 : w38.cell? ⟨gb686, 2, none⟩ = some (.slice none 0 0) := (an_ BK686.out 2).trans rfl; have hfz39_0 := am_ BK686.out 0; have hfz39_1 := am_ BK686.out 1; have hfz39_2 := am_ BK686.out 2; obtain ⟨Ao40, co40, eo40⟩ := Kd.N_slice HO684.out; subst eo40))
    go_ret2
    exact ⟨_, by first | rfl | (simp [errW_none, errW_some] <;> rfl) | (simp [*, errW_none, errW_some] <;> rfl), by first | exact Kd.S_nil _ _ _ _ _ | exact Kd.N_nil _ _ _ _ _ | exact Kd.V_nil _ _ _ _ _ | exact Kd.Q_nil _ _ _ _ _ | exact Kd.R_nil _ _ _ _ _, by repeat (first | (with_reducible first | exact HB.out | apply ai_ | apply ag_ | apply ah_ | refine af_ ?_ GE686.out) | exact HB.out)⟩
end Go.Proofs.Ytgoiifpimpnlpaa.PAll

end

section
namespace Go.Proofs.Ytgoiifpimpnlpaa.PAll
open Go.RowKit Go.Proofs.YtgoiifpimpnlpaaW.PrintWords Go.Proofs.YtgoiifpimpnlpaaW.PrintLast Go.Proofs.YtgoiifpimpnlpaaW.PrintMore
attribute [local go_sem] max2_int min2_int max_two min_two max_three min_three max_four min_four   -- for this text's walks alone
set_option linter.unusedVariables false
set_option linter.unusedSimpArgs false
def laws_eqCellSS.l0 : Nat → List (List (S66)) → List (List (S66)) → Int → Option (Bool)
  | 0, _, _, _ => none
  | k + 1, x0, x1, x5 => if x5 < (x0.length : Int) then (if 0 ≤ x5 then (if x5 < (x1.length : Int) then ((laws_eqCellS.f k (rd_L4 x0 x5) (rd_L4 x1 x5)).bind fun t722 => (if t722 = true then (laws_eqCellSS.l0 k x0 x1 (wrap64 (x5 + 1))) else (some false))) else (none)) else (none)) else (some true)
def laws_eqCellSS.f (k : Nat) (l0 : List (List (S66))) (l1 : List (List (S66))) : Option (Bool) := if (l0.length : Int) = (l1.length : Int) then (laws_eqCellSS.l0 k l0 l1 0) else (some false)
def laws_eqCellSS.T6 : Bool × List (List Nat × List Nat) := (true, [([], []), ([], []), ([0, 1], [0, 1]), ([2], [2]), ([], []), ([], []), ([4, 5], [4, 5]), ([6], [6]), ([3, 7], [3, 7]), ([8], [8])])
def laws_eqCellSS.B6 : List Nat := [0, 0, 3, 7, 0, 0, 48, 112, 255, 511]
theorem laws_eqCellSS.tab6 : rtab .any (opsOf Try.f34 6) = laws_eqCellSS.T6 := by kernel_rfl
theorem laws_eqCellSS.bits6 : waitsOk laws_eqCellSS.T6.2 laws_eqCellSS.B6 = true := by kernel_rfl
set_option maxHeartbeats 8000000 in
set_option maxRecDepth 100000 in
theorem laws_eqCellSS.calls (k : Nat) (A0 : Option Addr) (c0 : Nat) (l0 : List (List (S66))) (A1 : Option Addr) (c1 : Nat) (l1 : List (List (S66))) (r : Bool) (w : World) (hr0 : Kd.C (Kd.slice 66 k66) w A0 l0.length l0) (hc0 : l0.length ≤ c0) (hr1 : Kd.C (Kd.slice 66 k66) w A1 l1.length l1) (hc1 : l1.length ≤ c1) (h : laws_eqCellSS.f k l0 l1 = some r) :
    Calls Try.prog 34 #[.slice A0 l0.length c0, .slice A1 l1.length c1] w fun e w' => e = .returned (.bool r) ∧ Below w.heap.size w w' := by
  have HR0 := ab_ hr0
  have HC0 := ab_ hc0
  clear hr0 hc0
  have HR1 := ab_ hr1
  have HC1 := ab_ hc1
  clear hr1 hc1
  have HB := ab_ (aq_ w.heap.size w)
  have H : (if (l0.length : Int) = (l1.length : Int) then (laws_eqCellSS.l0 k l0 l1 0) else (some false)) = some r := h
  clear h
  by_cases c3 : (l0.length : Int) = (l1.length : Int)
  · rw [if_pos c3] at H
    have c3b0 : ((l0.length : Int) == (l1.length : Int)) = true := beq_iff_eq.mpr c3
    have c3b1 : ((l0.length : Int) != (l1.length : Int)) = false := bne_eq_false_iff_eq.mpr c3
    have c3b2 : (l0.length == l1.length) = true := by first | simpa using c3 | (simp at c3 ⊢; omega)
    clear c3
    have H' := ab_ H
    clear H
    go_enter Try.func34, Try.ntmps34
    go_wp2
    go_loopg [5] k (fun kq v5 w' => ∃ (x5_1 : Int), v5 = .int .i64 x5_1 ∧ Aside0 (laws_eqCellSS.l0 kq l0 l1 x5_1 = some r) ∧ Aside0 (kq ≤ k) ∧ Aside0 (Below w.heap.size w w'))
    case atStart => exact ⟨(0), (by first | rfl | (simp; done) | (simp [*]; done)), H', ⟨Nat.le_refl _⟩, ⟨by repeat (first | (with_reducible first | exact HB.out | apply ai_ | apply ag_ | apply ah_) | exact HB.out)⟩⟩
    case round =>
      clear H'
      try clear c1
      try clear p2
      try clear c3
      try clear c3b0
      try clear c3b1
      try clear c3b2
      obtain ⟨x5_1, rfl, HA, HK1, HB⟩ := hrel
      cases gk with
      | zero => exact absurd HA.out (by simp [laws_eqCellSS.l0])
      | succ k1 =>
        have H := HA.out
        clear HA
        simp only [laws_eqCellSS.l0] at H
        by_cases c4 : x5_1 < (l0.length : Int)
        · rw [if_pos c4] at H
          have c4b0 : decide (x5_1 < (l0.length : Int)) = true := ao_ c4
          clear c4
          by_cases c5 : 0 ≤ x5_1
          · rw [if_pos c5] at H
            have c5b0 : decide (0 ≤ x5_1) = true := ao_ c5
            clear c5
            by_cases c6 : x5_1 < (l1.length : Int)
            · rw [if_pos c6] at H
              have c6b0 : decide (x5_1 < (l1.length : Int)) = true := ao_ c6
              clear c6
              replace H := Option.bind_eq_some_iff.mp H
              obtain ⟨t722, A70, H⟩ := H
              replace H : (if t722 = true then (laws_eqCellSS.l0 k1 l0 l1 (wrap64 (x5_1 + 1))) else (some false)) = some r := H
              have A7 := ab_ A70
              clear A70
              by_cases c8 : t722 = true
              · subst c8
                have H1 : (laws_eqCellSS.l0 k1 l0 l1 (wrap64 (x5_1 + 1))) = some r := by rw [if_pos rfl] at H; exact H
                clear H
                have H := H1
                clear H1
                have H' := ab_ H
                clear H
                try go_wp2
                have n0_ := ab_ (ah_ HB.out)
                clear HB
                have HB := n0_
                clear n0_
                have p720 : 0 ≤ (x5_1 : Int) := of_decide_eq_true (by first | (with_reducible assumption) | assumption)
                have q720 : x5_1 < (l0.length : Int) := of_decide_eq_true (by first | (with_reducible assumption) | assumption)
                obtain ⟨ad720, A720_0, c720_0, e720, hx720_0, hl720_0, hi720_0⟩ := at_L4 HR0.out x5_1 p720 q720
                have hw720_0 := hx720_0
                cases e720
                replace hx720_0 := (HB.out.cell (aa_ w _ hx720_0)).trans hx720_0
                have HR720_0 := ab_ hi720_0
                have HC720_0 := ab_ hl720_0
                clear hi720_0 hl720_0
                replace p720 := eq_true p720
                replace q720 := eq_true q720
                have p721 : 0 ≤ (x5_1 : Int) := of_decide_eq_true (by first | (with_reducible assumption) | assumption)
                have q721 : x5_1 < (l1.length : Int) := of_decide_eq_true (by first | (with_reducible assumption) | assumption)
                obtain ⟨ad721, A721_0, c721_0, e721, hx721_0, hl721_0, hi721_0⟩ := at_L4 HR1.out x5_1 p721 q721
                have hw721_0 := hx721_0
                cases e721
                replace hx721_0 := (HB.out.cell (aa_ w _ hx721_0)).trans hx721_0
                have HR721_0 := ab_ hi721_0
                have HC721_0 := ab_ hl721_0
                clear hi721_0 hl721_0
                replace p721 := eq_true p721
                replace q721 := eq_true q721
                refine start_ (n := 10) (S := fun w' => w'.cell? (ad720.add (x5_1).toNat) = some (.slice A720_0 (rd_L4 l0 x5_1).length c720_0) ∧ w'.cell? (ad721.add (x5_1).toNat) = some (.slice A721_0 (rd_L4 l1 x5_1).length c721_0)) (ds := []) #[false, false, false, false, false, false, false, false, false, false] (by kernel_rfl) rfl rfl ⟨((HB.out.cell (aa_ w _ hw720_0)).trans hw720_0), ((HB.out.cell (aa_ w _ hw721_0)).trans hw721_0)⟩ (fun hHeld => ?_); refine with_tabW laws_eqCellSS.tab6 laws_eqCellSS.bits6 (fun HT_ HW_ => ?_)
                generalize wr.drew = w9 at HB HR720_0 HR721_0 hx720_0 hx721_0 hHeld ⊢
                refine pure_ (i := 0) (N := some 17) (v := ?_) (a' := ?_) #[true, false, false, false, false, false, false, false, false, false] rfl rfl (any_of HT_.out (by kernel_rfl)) (fun _ _ _ h => h) (Or.inl ⟨by rfl, ?_⟩) ?_ ?_
                rotate_left
                · intro w'
                  go_simp
                  with_reducible rfl
                rotate_left
                · simp only [Act.put, List.setIfInBounds_toArray, List.set_cons_zero, List.set_cons_succ, i64_w, i32_w]
                  rfl
                refine pure_ (i := 1) (N := some 18) (v := ?_) (a' := ?_) #[true, true, false, false, false, false, false, false, false, false] rfl rfl (any_of HT_.out (by kernel_rfl)) (fun _ _ _ h => h) (Or.inl ⟨by rfl, ?_⟩) ?_ ?_
                rotate_left
                · intro w'
                  go_simp
                  with_reducible rfl
                rotate_left
                · simp only [Act.put, List.setIfInBounds_toArray, List.set_cons_zero, List.set_cons_succ, i64_w, i32_w]
                  rfl
                refine pure_ (i := 2) (N := some 19) (v := ?_) (a' := ?_) #[true, true, true, false, false, false, false, false, false, false] rfl rfl (any_of HT_.out (by kernel_rfl)) (fun _ _ _ h => h) (Or.inl ⟨by rfl, ?_⟩) ?_ ?_
                rotate_left
                · intro w'
                  go_simp
                  with_reducible rfl
                rotate_left
                · simp only [Act.put, List.setIfInBounds_toArray, List.set_cons_zero, List.set_cons_succ, i64_w, i32_w]
                  rfl
                refine pure_ (i := 4) (N := some 21) (v := ?_) (a' := ?_) #[true, true, true, false, true, false, false, false, false, false] rfl rfl (any_of HT_.out (by kernel_rfl)) (fun _ _ _ h => h) (Or.inl ⟨by rfl, ?_⟩) ?_ ?_
                rotate_left
                · intro w'
                  go_simp
                  with_reducible rfl
                rotate_left
                · simp only [Act.put, List.setIfInBounds_toArray, List.set_cons_zero, List.set_cons_succ, i64_w, i32_w]
                  rfl
                refine pure_ (i := 5) (N := some 22) (v := ?_) (a' := ?_) #[true, true, true, false, true, true, false, false, false, false] rfl rfl (any_of HT_.out (by kernel_rfl)) (fun _ _ _ h => h) (Or.inl ⟨by rfl, ?_⟩) ?_ ?_
                rotate_left
                · intro w'
                  go_simp
                  with_reducible rfl
                rotate_left
                · simp only [Act.put, List.setIfInBounds_toArray, List.set_cons_zero, List.set_cons_succ, i64_w, i32_w]
                  rfl
                refine pure_ (i := 6) (N := some 23) (v := ?_) (a' := ?_) #[true, true, true, false, true, true, true, false, false, false] rfl rfl (any_of HT_.out (by kernel_rfl)) (fun _ _ _ h => h) (Or.inl ⟨by rfl, ?_⟩) ?_ ?_
                rotate_left
                · intro w'
                  go_simp
                  with_reducible rfl
                rotate_left
                · simp only [Act.put, List.setIfInBounds_toArray, List.set_cons_zero, List.set_cons_succ, i64_w, i32_w]
                  rfl
                refine take_ (i := 3) (N := some 20) (v := ?_) (a' := ?_) #[true, true, true, true, true, true, true, false, false, false] rfl rfl (take_ofW HT_.out HW_.out (by kernel_rfl)) (fun _ _ _ h => h) (Or.inl ⟨by rfl, ?_⟩) hHeld ?_ ?_
                rotate_left
                · rintro w' ⟨s0, s1⟩
                  go_simp
                  with_reducible rfl
                rotate_left
                · simp only [Act.put, List.setIfInBounds_toArray, List.set_cons_zero, List.set_cons_succ, i64_w, i32_w]
                  rfl
                refine take_ (i := 7) (N := some 24) (v := ?_) (a' := ?_) #[true, true, true, true, true, true, true, true, false, false] rfl rfl (take_ofW HT_.out HW_.out (by kernel_rfl)) (fun _ _ _ h => h) (Or.inl ⟨by rfl, ?_⟩) hHeld ?_ ?_
                rotate_left
                · rintro w' ⟨s0, s1⟩
                  go_simp
                  with_reducible rfl
                rotate_left
                · simp only [Act.put, List.setIfInBounds_toArray, List.set_cons_zero, List.set_cons_succ, i64_w, i32_w]
                  rfl
                refine one_ (i := 8) (N := some 25) #[true, true, true, true, true, true, true, true, true, false] rfl rfl (one_of HT_.out (by kernel_rfl)) (by decide) (fun K hK => ?_)
                refine goes_ Try.func17 (by kernel_rfl) rfl #[.slice A720_0 (rd_L4 l0 x5_1).length c720_0, .slice A721_0 (rd_L4 l1 x5_1).length c721_0] (by rfl) rfl rfl (by (try simp only [List.map_toArray, List.map_cons, List.map_nil]); first | done | rfl | (simp only [List.length_drop, List.length_take]; rfl)) ?_
                with_reducible refine (laws_eqCellS.calls k1 _ _ (rd_L4 l0 x5_1) _ _ (rd_L4 l1 x5_1) true _ ?side1 ?side2 ?side3 ?side4 A7.out).mono ?_
                (case side1 => repeat (first | exact (Kd.C_below HR720_0.out HB.out) | (with_reducible refine Kd.C_alloc ?_ _) | (with_reducible refine Kd.C_drewN ?_ _) | (with_reducible refine Kd.C_drew ?_)))
                (case side2 => exact HC720_0.out)
                (case side3 => repeat (first | exact (Kd.C_below HR721_0.out HB.out) | (with_reducible refine Kd.C_alloc ?_ _) | (with_reducible refine Kd.C_drewN ?_ _) | (with_reducible refine Kd.C_drew ?_)))
                (case side4 => exact HC721_0.out)
                rintro e w10 ⟨rfl, hb⟩
                refine ⟨_, rfl, ?_⟩
                have n0_ := ab_ (ap_ (by repeat (first | (with_reducible first | exact HB.out | apply ai_ | apply ag_ | apply ah_) | exact HB.out)) hb)
                clear HB
                have HB := n0_
                clear n0_
                (try clear hb)
                (try clear hb2)
                (try clear hk)
                (try clear hi)
                refine hK.out _ _ ⟨((HB.out.cell (aa_ w _ hw720_0)).trans hw720_0), ((HB.out.cell (aa_ w _ hw721_0)).trans hw721_0)⟩ (fun hHeld => ?_)
                clear hK K
                refine norm_ (a' := ?_) ?_ ?_
                rotate_left
                · show Act.put _ (some 25) _ = _
                  simp only [Act.put, List.setIfInBounds_toArray, List.set_cons_zero, List.set_cons_succ, i64_w, i32_w]
                  rfl
                refine pure_ (i := 9) (N := some 26) (v := ?_) (a' := ?_) #[true, true, true, true, true, true, true, true, true, true] rfl rfl (any_of HT_.out (by kernel_rfl)) (fun _ _ _ h => h) (Or.inl ⟨by rfl, ?_⟩) ?_ ?_
                rotate_left
                · intro w'
                  go_simp
                  with_reducible rfl
                rotate_left
                · simp only [Act.put, List.setIfInBounds_toArray, List.set_cons_zero, List.set_cons_succ, i64_w, i32_w]
                  rfl
                refine done_ (done_of HT_.out (by kernel_rfl)) ?_
                try go_wp2
                go_roundg k1
                case measure => have := HK1.out; omega
                case rel => exact ⟨(wrap64 (x5_1 + 1)), (by first | rfl | (simp; done) | (simp [*]; done)), H', ⟨by have := HK1.out; omega⟩, ⟨by repeat (first | (with_reducible first | exact HB.out | apply ai_ | apply ag_ | apply ah_) | exact HB.out)⟩⟩
              · replace c8 := Bool.eq_false_iff.mpr c8
                subst c8
                have H1 : (some false) = some r := by rw [if_neg (show ¬ (false = true) by decide)] at H; exact H
                clear H
                have H := H1
                clear H1
                obtain rfl := Option.some.inj H
                try go_wp2
                have n0_ := ab_ (ah_ HB.out)
                clear HB
                have HB := n0_
                clear n0_
                have p720 : 0 ≤ (x5_1 : Int) := of_decide_eq_true (by first | (with_reducible assumption) | assumption)
                have q720 : x5_1 < (l0.length : Int) := of_decide_eq_true (by first | (with_reducible assumption) | assumption)
                obtain ⟨ad720, A720_0, c720_0, e720, hx720_0, hl720_0, hi720_0⟩ := at_L4 HR0.out x5_1 p720 q720
                have hw720_0 := hx720_0
                cases e720
                replace hx720_0 := (HB.out.cell (aa_ w _ hx720_0)).trans hx720_0
                have HR720_0 := ab_ hi720_0
                have HC720_0 := ab_ hl720_0
                clear hi720_0 hl720_0
                replace p720 := eq_true p720
                replace q720 := eq_true q720
                have p721 : 0 ≤ (x5_1 : Int) := of_decide_eq_true (by first | (with_reducible assumption) | assumption)
                have q721 : x5_1 < (l1.length : Int) := of_decide_eq_true (by first | (with_reducible assumption) | assumption)
                obtain ⟨ad721, A721_0, c721_0, e721, hx721_0, hl721_0, hi721_0⟩ := at_L4 HR1.out x5_1 p721 q721
                have hw721_0 := hx721_0
                cases e721
                replace hx721_0 := (HB.out.cell (aa_ w _ hx721_0)).trans hx721_0
                have HR721_0 := ab_ hi721_0
                have HC721_0 := ab_ hl721_0
                clear hi721_0 hl721_0
                replace p721 := eq_true p721
                replace q721 := eq_true q721
                refine start_ (n := 10) (S := fun w' => w'.cell? (ad720.add (x5_1).toNat) = some (.slice A720_0 (rd_L4 l0 x5_1).length c720_0) ∧ w'.cell? (ad721.add (x5_1).toNat) = some (.slice A721_0 (rd_L4 l1 x5_1).length c721_0)) (ds := []) #[false, false, false, false, false, false, false, false, false, false] (by kernel_rfl) rfl rfl ⟨((HB.out.cell (aa_ w _ hw720_0)).trans hw720_0), ((HB.out.cell (aa_ w _ hw721_0)).trans hw721_0)⟩ (fun hHeld => ?_); refine with_tabW laws_eqCellSS.tab6 laws_eqCellSS.bits6 (fun HT_ HW_ => ?_)
                generalize wr.drew = w11 at HB HR720_0 HR721_0 hx720_0 hx721_0 hHeld ⊢
                refine pure_ (i := 0) (N := some 17) (v := ?_) (a' := ?_) #[true, false, false, false, false, false, false, false, false, false] rfl rfl (any_of HT_.out (by kernel_rfl)) (fun _ _ _ h => h) (Or.inl ⟨by rfl, ?_⟩) ?_ ?_
                rotate_left
                · intro w'
                  go_simp
                  with_reducible rfl
                rotate_left
                · simp only [Act.put, List.setIfInBounds_toArray, List.set_cons_zero, List.set_cons_succ, i64_w, i32_w]
                  rfl
                refine pure_ (i := 1) (N := some 18) (v := ?_) (a' := ?_) #[true, true, false, false, false, false, false, false, false, false] rfl rfl (any_of HT_.out (by kernel_rfl)) (fun _ _ _ h => h) (Or.inl ⟨by rfl, ?_⟩) ?_ ?_
                rotate_left
                · intro w'
                  go_simp
                  with_reducible rfl
                rotate_left
                · simp only [Act.put, List.setIfInBounds_toArray, List.set_cons_zero, List.set_cons_succ, i64_w, i32_w]
                  rfl
                refine pure_ (i := 2) (N := some 19) (v := ?_) (a' := ?_) #[true, true, true, false, false, false, false, false, false, false] rfl rfl (any_of HT_.out (by kernel_rfl)) (fun _ _ _ h => h) (Or.inl ⟨by rfl, ?_⟩) ?_ ?_
                rotate_left
                · intro w'
                  go_simp
                  with_reducible rfl
                rotate_left
                · simp only [Act.put, List.setIfInBounds_toArray, List.set_cons_zero, List.set_cons_succ, i64_w, i32_w]
                  rfl
                refine pure_ (i := 4) (N := some 21) (v := ?_) (a' := ?_) #[true, true, true, false, true, false, false, false, false, false] rfl rfl (any_of HT_.out (by kernel_rfl)) (fun _ _ _ h => h) (Or.inl ⟨by rfl, ?_⟩) ?_ ?_
                rotate_left
                · intro w'
                  go_simp
                  with_reducible rfl
                rotate_left
                · simp only [Act.put, List.setIfInBounds_toArray, List.set_cons_zero, List.set_cons_succ, i64_w, i32_w]
                  rfl
                refine pure_ (i := 5) (N := some 22) (v := ?_) (a' := ?_) #[true, true, true, false, true, true, false, false, false, false] rfl rfl (any_of HT_.out (by kernel_rfl)) (fun _ _ _ h => h) (Or.inl ⟨by rfl, ?_⟩) ?_ ?_
                rotate_left
                · intro w'
                  go_simp
                  with_reducible rfl
                rotate_left
                · simp only [Act.put, List.setIfInBounds_toArray, List.set_cons_zero, List.set_cons_succ, i64_w, i32_w]
                  rfl
                refine pure_ (i := 6) (N := some 23) (v := ?_) (a' := ?_) #[true, true, true, false, true, true, true, false, false, false] rfl rfl (any_of HT_.out (by kernel_rfl)) (fun _ _ _ h => h) (Or.inl ⟨by rfl, ?_⟩) ?_ ?_
                rotate_left
                · intro w'
                  go_simp
                  with_reducible rfl
                rotate_left
                · simp only [Act.put, List.setIfInBounds_toArray, List.set_cons_zero, List.set_cons_succ, i64_w, i32_w]
                  rfl
                refine take_ (i := 3) (N := some 20) (v := ?_) (a' := ?_) #[true, true, true, true, true, true, true, false, false, false] rfl rfl (take_ofW HT_.out HW_.out (by kernel_rfl)) (fun _ _ _ h => h) (Or.inl ⟨by rfl, ?_⟩) hHeld ?_ ?_
                rotate_left
                · rintro w' ⟨s0, s1⟩
                  go_simp
                  with_reducible rfl
                rotate_left
                · simp only [Act.put, List.setIfInBounds_toArray, List.set_cons_zero, List.set_cons_succ, i64_w, i32_w]
                  rfl
                refine take_ (i := 7) (N := some 24) (v := ?_) (a' := ?_) #[true, true, true, true, true, true, true, true, false, false] rfl rfl (take_ofW HT_.out HW_.out (by kernel_rfl)) (fun _ _ _ h => h) (Or.inl ⟨by rfl, ?_⟩) hHeld ?_ ?_
                rotate_left
                · rintro w' ⟨s0, s1⟩
                  go_simp
                  with_reducible rfl
                rotate_left
                · simp only [Act.put, List.setIfInBounds_toArray, List.set_cons_zero, List.set_cons_succ, i64_w, i32_w]
                  rfl
                refine one_ (i := 8) (N := some 25) #[true, true, true, true, true, true, true, true, true, false] rfl rfl (one_of HT_.out (by kernel_rfl)) (by decide) (fun K hK => ?_)
                refine goes_ Try.func17 (by kernel_rfl) rfl #[.slice A720_0 (rd_L4 l0 x5_1).length c720_0, .slice A721_0 (rd_L4 l1 x5_1).length c721_0] (by rfl) rfl rfl (by (try simp only [List.map_toArray, List.map_cons, List.map_nil]); first | done | rfl | (simp only [List.length_drop, List.length_take]; rfl)) ?_
                with_reducible refine (laws_eqCellS.calls k1 _ _ (rd_L4 l0 x5_1) _ _ (rd_L4 l1 x5_1) false _ ?side1 ?side2 ?side3 ?side4 A7.out).mono ?_
                (case side1 => repeat (first | exact (Kd.C_below HR720_0.out HB.out) | (with_reducible refine Kd.C_alloc ?_ _) | (with_reducible refine Kd.C_drewN ?_ _) | (with_reducible refine Kd.C_drew ?_)))
                (case side2 => exact HC720_0.out)
                (case side3 => repeat (first | exact (Kd.C_below HR721_0.out HB.out) | (with_reducible refine Kd.C_alloc ?_ _) | (with_reducible refine Kd.C_drewN ?_ _) | (with_reducible refine Kd.C_drew ?_)))
                (case side4 => exact HC721_0.out)
                rintro e w12 ⟨rfl, hb⟩
                refine ⟨_, rfl, ?_⟩
                have n0_ := ab_ (ap_ (by repeat (first | (with_reducible first | exact HB.out | apply ai_ | apply ag_ | apply ah_) | exact HB.out)) hb)
                clear HB
                have HB := n0_
                clear n0_
                (try clear hb)
                (try clear hb2)
                (try clear hk)
                (try clear hi)
                refine hK.out _ _ ⟨((HB.out.cell (aa_ w _ hw720_0)).trans hw720_0), ((HB.out.cell (aa_ w _ hw721_0)).trans hw721_0)⟩ (fun hHeld => ?_)
                clear hK K
                refine norm_ (a' := ?_) ?_ ?_
                rotate_left
                · show Act.put _ (some 25) _ = _
                  simp only [Act.put, List.setIfInBounds_toArray, List.set_cons_zero, List.set_cons_succ, i64_w, i32_w]
                  rfl
                refine pure_ (i := 9) (N := some 26) (v := ?_) (a' := ?_) #[true, true, true, true, true, true, true, true, true, true] rfl rfl (any_of HT_.out (by kernel_rfl)) (fun _ _ _ h => h) (Or.inl ⟨by rfl, ?_⟩) ?_ ?_
                rotate_left
                · intro w'
                  go_simp
                  with_reducible rfl
                rotate_left
                · simp only [Act.put, List.setIfInBounds_toArray, List.set_cons_zero, List.set_cons_succ, i64_w, i32_w]
                  rfl
                refine done_ (done_of HT_.out (by kernel_rfl)) ?_
                try go_wp2
                go_ret
                exact ⟨by first | rfl | (simp [errW_none, errW_some] <;> rfl) | (simp [*, errW_none, errW_some] <;> rfl), by repeat (first | (with_reducible first | exact HB.out | apply ai_ | apply ag_ | apply ah_) | exact HB.out)⟩
            · rw [if_neg c6] at H
              exact absurd H (by simp)
          · rw [if_neg c5] at H
            exact absurd H (by simp)
        · rw [if_neg c4] at H
          have c4b0 : decide (x5_1 < (l0.length : Int)) = false := decide_eq_false c4
          clear c4
          obtain rfl := Option.some.inj H
          go_wp2
          go_ret
          exact ⟨by first | rfl | (simp [errW_none, errW_some] <;> rfl) | (simp [*, errW_none, errW_some] <;> rfl), by repeat (first | (with_reducible first | exact HB.out | apply ai_ | apply ag_ | apply ah_) | exact HB.out)⟩
  · rw [if_neg c3] at H
    have c3b0 : ((l0.length : Int) == (l1.length : Int)) = false := beq_eq_false_iff_ne.mpr c3
    have c3b1 : ((l0.length : Int) != (l1.length : Int)) = true := bne_iff_ne.mpr c3
    have c3b2 : (l0.length == l1.length) = false := by first | simpa using c3 | (simp at c3 ⊢; omega)
    obtain rfl := Option.some.inj H
    go_enter Try.func34, Try.ntmps34
    go_wp2
    go_ret
    exact ⟨by first | rfl | (simp [errW_none, errW_some] <;> rfl) | (simp [*, errW_none, errW_some] <;> rfl), by repeat (first | (with_reducible first | exact HB.out | apply ai_ | apply ag_ | apply ah_) | exact HB.out)⟩
end Go.Proofs.Ytgoiifpimpnlpaa.PAll

end

section
namespace Go.Proofs.Ytgoiifpimpnlpaa.PAll
open Go.RowKit Go.Proofs.YtgoiifpimpnlpaaW.PrintWords Go.Proofs.YtgoiifpimpnlpaaW.PrintLast Go.Proofs.YtgoiifpimpnlpaaW.PrintMore
attribute [local go_sem] max2_int min2_int max_two min_two max_three min_three max_four min_four   -- for this text's walks alone
set_option linter.unusedVariables false
set_option linter.unusedSimpArgs false
def laws_heldCellSS.l0 : Nat → List (List (S66)) → Int → Int → Option (Int)
  | 0, _, _, _ => none
  | k + 1, x0, x1, x5 => if x5 < (x0.length : Int) then (if 0 ≤ x5 then ((laws_heldCellS.f k (rd_L4 x0 x5) x1).bind fun t726 => (if t726 < 0 then (some (-1)) else (laws_heldCellSS.l0 k x0 t726 (wrap64 (x5 + 1))))) else (none)) else (some x1)
def laws_heldCellSS.f (k : Nat) (l0 : List (List (S66))) (a1 : Int) : Option (Int) := laws_heldCellSS.l0 k l0 a1 0
set_option maxHeartbeats 8000000 in
set_option maxRecDepth 100000 in
theorem laws_heldCellSS.calls (k : Nat) (A0 : Option Addr) (c0 : Nat) (l0 : List (List (S66))) (a1 : Int) (r : Int) (w : World) (hr0 : Kd.C (Kd.slice 66 k66) w A0 l0.length l0) (hc0 : l0.length ≤ c0) (h : laws_heldCellSS.f k l0 a1 = some r) :
    Calls Try.prog 36 #[.slice A0 l0.length c0, .int .i64 a1] w fun e w' => e = .returned (.int .i64 r) ∧ Drawn0 w w' := by
  have HR0 := ab_ hr0
  have HC0 := ab_ hc0
  clear hr0 hc0
  have H : (laws_heldCellSS.l0 k l0 a1 0) = some r := h
  clear h
  have H' := ab_ H
  clear H
  go_enter Try.func36, Try.ntmps36
  go_wp2
  go_loopg [1, 5] k (fun kq v1 v5 w' => ∃ (x1_1 : Int) (x5_1 : Int), v1 = .int .i64 x1_1 ∧ v5 = .int .i64 x5_1 ∧ Aside0 (laws_heldCellSS.l0 kq l0 x1_1 x5_1 = some r) ∧ Aside0 (kq ≤ k) ∧ Drawn0 w w')
  case atStart => exact ⟨(a1), (0), (by first | rfl | (simp; done) | (simp [*]; done)), (by first | rfl | (simp; done) | (simp [*]; done)), H', ⟨Nat.le_refl _⟩, by repeat (first | exact Drawn0.refl _ | apply Drawn0.step)⟩
  case round =>
    clear H'
    try clear p2
    obtain ⟨x1_1, x5_1, rfl, rfl, HA, HK1, ⟨m1, rfl⟩⟩ := hrel
    cases gk with
    | zero => exact absurd HA.out (by simp [laws_heldCellSS.l0])
    | succ k1 =>
      have H := HA.out
      clear HA
      simp only [laws_heldCellSS.l0] at H
      by_cases c3 : x5_1 < (l0.length : Int)
      · rw [if_pos c3] at H
        have c3b0 : decide (x5_1 < (l0.length : Int)) = true := ao_ c3
        clear c3
        by_cases c4 : 0 ≤ x5_1
        · rw [if_pos c4] at H
          have c4b0 : decide (0 ≤ x5_1) = true := ao_ c4
          clear c4
          replace H := Option.bind_eq_some_iff.mp H
          obtain ⟨t726, A50, H⟩ := H
          replace H : (if t726 < 0 then (some (-1)) else (laws_heldCellSS.l0 k1 l0 t726 (wrap64 (x5_1 + 1)))) = some r := H
          have A5 := ab_ A50
          clear A50
          by_cases c6 : t726 < 0
          · rw [if_pos c6] at H
            have c6b0 : decide (t726 < 0) = true := ao_ c6
            clear c6
            obtain rfl := Option.some.inj H
            have p725 : 0 ≤ (x5_1 : Int) := of_decide_eq_true (by first | (with_reducible assumption) | assumption)
            have q725 : x5_1 < (l0.length : Int) := of_decide_eq_true (by first | (with_reducible assumption) | assumption)
            obtain ⟨ad725, A725_0, c725_0, e725, hx725_0, hl725_0, hi725_0⟩ := at_L4 HR0.out x5_1 p725 q725
            cases e725
            have HR725_0 := ab_ hi725_0
            have HC725_0 := ab_ hl725_0
            clear hi725_0 hl725_0
            replace p725 := eq_true p725
            replace q725 := eq_true q725
            go_wp2_with (first | ((with_reducible refine gate_callee (f := 27) rfl ?_); refine goesL_ (some 17) rfl rfl Try.func27 (by kernel_rfl) rfl #[.slice A725_0 (rd_L4 l0 x5_1).length c725_0, .int .i64 x1_1] rfl (by (try simp only [List.map_toArray, List.map_cons, List.map_nil]); first | done | rfl | (simp only [List.length_drop, List.length_take]; rfl)) ?_; (with_reducible refine (laws_heldCellS.calls k1 _ _ (rd_L4 l0 x5_1) x1_1 t726 _ ?side1 ?side2 A5.out).mono ?_); (case side1 => repeat (first | exact HR725_0.out | (with_reducible refine Kd.C_alloc ?_ _) | (with_reducible refine Kd.C_drewN ?_ _) | (with_reducible refine Kd.C_drew ?_))); (case side2 => exact HC725_0.out); rintro e w' ⟨rfl, ⟨nd, rfl⟩⟩; refine ⟨_, rfl, ?_⟩))
            go_ret
            exact ⟨by first | rfl | (simp; done) | (simp [*]; done), by repeat (first | exact Drawn0.refl _ | apply Drawn0.step)⟩
          · rw [if_neg c6] at H
            have c6b0 : decide (t726 < 0) = false := decide_eq_false c6
            clear c6
            have H' := ab_ H
            clear H
            have p725 : 0 ≤ (x5_1 : Int) := of_decide_eq_true (by first | (with_reducible assumption) | assumption)
            have q725 : x5_1 < (l0.length : Int) := of_decide_eq_true (by first | (with_reducible assumption) | assumption)
            obtain ⟨ad725, A725_0, c725_0, e725, hx725_0, hl725_0, hi725_0⟩ := at_L4 HR0.out x5_1 p725 q725
            cases e725
            have HR725_0 := ab_ hi725_0
            have HC725_0 := ab_ hl725_0
            clear hi725_0 hl725_0
            replace p725 := eq_true p725
            replace q725 := eq_true q725
            go_wp2_with (first | ((with_reducible refine gate_callee (f := 27) rfl ?_); refine goesL_ (some 17) rfl rfl Try.func27 (by kernel_rfl) rfl #[.slice A725_0 (rd_L4 l0 x5_1).length c725_0, .int .i64 x1_1] rfl (by (try simp only [List.map_toArray, List.map_cons, List.map_nil]); first | done | rfl | (simp only [List.length_drop, List.length_take]; rfl)) ?_; (with_reducible refine (laws_heldCellS.calls k1 _ _ (rd_L4 l0 x5_1) x1_1 t726 _ ?side1 ?side2 A5.out).mono ?_); (case side1 => repeat (first | exact HR725_0.out | (with_reducible refine Kd.C_alloc ?_ _) | (with_reducible refine Kd.C_drewN ?_ _) | (with_reducible refine Kd.C_drew ?_))); (case side2 => exact HC725_0.out); rintro e w' ⟨rfl, ⟨nd, rfl⟩⟩; refine ⟨_, rfl, ?_⟩))
            go_roundg k1
            case measure => have := HK1.out; omega
            case rel => exact ⟨(t726), (wrap64 (x5_1 + 1)), (by first | rfl | (simp; done) | (simp [*]; done)), (by first | rfl | (simp; done) | (simp [*]; done)), H', ⟨by have := HK1.out; omega⟩, by repeat (first | exact Drawn0.refl _ | apply Drawn0.step)⟩
        · rw [if_neg c4] at H
          exact absurd H (by simp)
      · rw [if_neg c3] at H
        have c3b0 : decide (x5_1 < (l0.length : Int)) = false := decide_eq_false c3
        clear c3
        obtain rfl := Option.some.inj H
        go_wp2
        go_ret
        exact ⟨by first | rfl | (simp; done) | (simp [*]; done), by repeat (first | exact Drawn0.refl _ | apply Drawn0.step)⟩
end Go.Proofs.Ytgoiifpimpnlpaa.PAll

end

section
namespace Go.Proofs.Ytgoiifpimpnlpaa.PAll
open Go.RowKit Go.Proofs.YtgoiifpimpnlpaaW.PrintWords Go.Proofs.YtgoiifpimpnlpaaW.PrintLast Go.Proofs.YtgoiifpimpnlpaaW.PrintMore
set_option linter.unusedVariables false
set_option linter.unusedSimpArgs false
def lawStepsF (k : Nat) (l0 : List S68) : Option Bool :=
  (laws_szCellS.f l0 1048576).bind fun t => if t < 0 then some true else
    (laws_toCellS.f k l0).bind fun t1 => (spec_StepsOf.f k t1).bind fun r =>
      (laws_eqCellSS.f k (stepsOf t1).1 r.1).bind fun e => if e = true then (if (stepsOf t1).2 = r.2 then
        (laws_eqCellS.f k t1 t1).bind fun e2 => if e2 = true then
          (laws_markCellS.f k t1 1).bind fun m => if 0 ≤ m.1 then
            (if 1 + 2 * tot (stepsOf t1).1 ≤ 1000000000 ∧ (stepsOf t1).1.length ≤ 1000000000 then
              (laws_heldCellSS.f k (mkd (stepsOf t1).1 1) 1).bind fun h => if h = 1 + 2 * tot (stepsOf t1).1 then some true else none
            else none) else none
        else none
      else none) else none
set_option maxRecDepth 100000 in
set_option maxHeartbeats 4000000 in
theorem lawSteps_calls (k : Nat) (A0 : Option Addr) (c0 : Nat) (l0 : List S68) (w : World) (hr0 : Kd.C k68 w A0 l0.length l0) (hc0 : l0.length ≤ c0) (h : lawStepsF k l0 = some true) :
    Calls Try.prog 10 #[.slice A0 l0.length c0] w fun e w' => e = .returned (.bool true) ∧ Below w.heap.size w w' := by
  unfold lawStepsF at h
  obtain ⟨t, hsz, h⟩ := Option.bind_eq_some_iff.mp h
  have HR0 := Lib.hid hr0
  have HSZ := Lib.hid hsz
  clear hr0 hsz
  by_cases ht : t < 0
  · have hd : decide (t < 0) = true := ao_ ht
    clear h
    go_enter Try.func10, Try.ntmps10
    go_wp2_with fail
    refine (laws_szCellS.calls A0 c0 l0 1048576 t w HR0.out hc0 HSZ.out).mono ?_
    rintro e w1 ⟨rfl, ⟨nd, rfl⟩⟩
    go_wp2
    go_ret
    exact ⟨rfl, ag_ (aq_ _ _) nd⟩
  · have hd : decide (t < 0) = false := decide_eq_false ht
    rw [if_neg ht] at h
    obtain ⟨t1, htc, h⟩ := Option.bind_eq_some_iff.mp h
    obtain ⟨⟨r1, r2⟩, hsp, h⟩ := Option.bind_eq_some_iff.mp h
    obtain ⟨e, heq, h⟩ := Option.bind_eq_some_iff.mp h
    have he : e = true := by
      cases e with
      | true => rfl
      | false => simp at h
    subst he
    rw [if_pos rfl] at h
    have hb2 : (stepsOf t1).2 = r2 := by
      by_cases hx : (stepsOf t1).2 = r2
      · exact hx
      · rw [if_neg hx] at h; cases h
    rw [if_pos hb2] at h
    obtain ⟨e2, heq2, h⟩ := Option.bind_eq_some_iff.mp h
    have he2 : e2 = true := by
      cases e2 with
      | true => rfl
      | false => simp at h
    subst he2
    rw [if_pos rfl] at h
    obtain ⟨⟨m, ys⟩, hmk, h⟩ := Option.bind_eq_some_iff.mp h
    have hm : 0 ≤ m := by
      by_cases hx : 0 ≤ m
      · exact hx
      · rw [if_neg hx] at h; cases h
    rw [if_pos hm] at h
    have hcc : 1 + 2 * tot (stepsOf t1).1 ≤ 1000000000 ∧ (stepsOf t1).1.length ≤ 1000000000 := by
      by_cases hx : 1 + 2 * tot (stepsOf t1).1 ≤ 1000000000 ∧ (stepsOf t1).1.length ≤ 1000000000
      · exact hx
      · rw [if_neg hx] at h; cases h
    rw [if_pos hcc] at h
    obtain ⟨hh, hhe, h⟩ := Option.bind_eq_some_iff.mp h
    have hhh : hh = 1 + 2 * tot (stepsOf t1).1 := by
      by_cases hx : hh = 1 + 2 * tot (stepsOf t1).1
      · exact hx
      · rw [if_neg hx] at h; cases h
    subst hhh
    clear h
    have htp := tot_pos (stepsOf t1).1
    have hmd : decide (m < 0) = false := decide_eq_false (by omega)
    obtain ⟨g1, hg1⟩ : ∃ g, g = (stepsOf t1).1 := ⟨_, rfl⟩
    have hSO : stepsOf t1 = (g1, r2) := by rw [hg1, ← hb2]
    rw [← hg1] at heq hcc hhe htp
    have HTC := Lib.hid htc
    have HSP := Lib.hid hsp
    have HEQ := Lib.hid heq
    have HEQ2 := Lib.hid heq2
    have HMK := Lib.hid hmk
    have HHE := Lib.hid hhe
    have HSO := Lib.hid hSO
    have HCC := Lib.hid hcc
    clear htc hsp heq heq2 hmk hhe hSO hcc hb2 hg1 ht
    obtain ⟨tt, htt⟩ : ∃ x, x = 1 + 2 * tot g1 := ⟨_, rfl⟩
    have htt0 : decide (tt < 0) = false := decide_eq_false (by omega)
    have HTT := Lib.hid htt
    clear htt
    go_enter Try.func10, Try.ntmps10
    go_wp2_with fail
    refine (laws_szCellS.calls A0 c0 l0 1048576 t w HR0.out hc0 HSZ.out).mono ?_
    rintro e w1 ⟨rfl, ⟨nd, rfl⟩⟩
    have HB1 := Lib.hid (ag_ (aq_ w.heap.size w) nd)
    generalize hw1 : w.drewN nd = w1 at HB1
    clear hw1
    -- the reference
    go_wp2_with fail
    refine (laws_toCellS.calls k A0 c0 l0 t1 w1 (Kd.C_below HR0.out HB1.out) hc0 HTC.out).mono ?_
    rintro e w2 ⟨v1, rfl, h1, b2⟩
    obtain ⟨A1, c1, hv1, hl1, _⟩ := Kd.R_reads h1
    subst hv1
    have HB2 := Lib.hid (ap_ HB1.out b2)
    have HC1 := Lib.hid (Kd.R_reads' h1).2.2
    clear h1 b2
    go_wp2_with fail
    refine (spec_StepsOf.calls k A1 c1 t1 r1 r2 w2 HC1.out hl1 HSP.out).mono ?_
    rintro e w3 ⟨vw, rfl, hn, b3⟩
    obtain ⟨Aw, cw, hvw⟩ := Kd.N_slice hn
    subst hvw
    have HB3 := Lib.hid (ap_ HB2.out b3)
    have HW := Lib.hid (show Kd.V (Kd.slice 66 k66) 25 w3 w3.heap.size (fun k => k < w3.heap.size) (.slice Aw r1.length cw) r1 from Kd.V_mono (Kd.N_V (Kd.N_bound hn)) (fun k hk => hk.2))
    clear hn b3 hl1
    have hlw := (Kd.V_reads' HW.out).2.1
    -- the program
    go_wp2_with fail
    refine (laws_toCellS.calls k A0 c0 l0 t1 w3 (Kd.C_below HR0.out HB3.out) hc0 HTC.out).mono ?_
    rintro e w4 ⟨v0, rfl, h1, b4⟩
    obtain ⟨Ax, cx, hv0, hlx, _⟩ := Kd.R_reads h1
    subst hv0
    have HB4 := Lib.hid b4
    have HX := Lib.hid (Kd.R_bound h1)
    clear h1 b4
    go_wp2_with fail
    refine (StepsOf_calls t1 Ax cx w4 (Kd.R_reads' HX.out).2.2 hlx).mono ?_
    rw [HSO.out]
    rintro e w5 ⟨vg, rfl, hS, b5⟩
    obtain ⟨Ag, cg, hvg⟩ := Kd.S_slice hS
    subst hvg
    have HB5 := Lib.hid b5
    have HG := Lib.hid (show Kd.S (Kd.slice 66 k66) 25 w5 w4.heap.size (fun k => w4.heap.size ≤ k) (.slice Ag g1.length cg) g1 from Kd.S_mono (Kd.S_bound hS) (fun k hk => hk.2.1))
    clear hS b5
    have hlg := (Kd.S_reads' HG.out).2.1
    have HW5 := Lib.hid (Kd.V_below (Kd.V_below HW.out HB4.out) HB5.out)
    go_wp2_with fail
    refine (laws_eqCellSS.calls k Ag cg g1 Aw cw r1 true w5 (Kd.S_reads' HG.out).2.2 hlg (Kd.V_reads' HW5.out).2.2 hlw HEQ.out).mono ?_
    rintro e w6 ⟨rfl, b6⟩
    have HB6 := Lib.hid b6
    clear b6
    have HT4 := Lib.hid (ap_ HB3.out HB4.out)
    have HT5 := Lib.hid (ap_ HT4.out HB5.out)
    have HT6 := Lib.hid (ap_ HT5.out HB6.out)
    have H34 := Lib.hid HB4.out
    have H36 := Lib.hid (ap_ (ap_ HB4.out HB5.out) HB6.out)
    go_wp2_with fail
    refine (laws_toCellS.calls k A0 c0 l0 t1 w6 (Kd.C_below HR0.out HT6.out) hc0 HTC.out).mono ?_
    rintro e w7 ⟨v7, rfl, h1, b7⟩
    obtain ⟨A7, c7, hv7, hl7, _⟩ := Kd.R_reads h1
    subst hv7
    have HB7 := Lib.hid b7
    have HC7 := Lib.hid (Kd.R_reads' h1).2.2
    clear h1 b7
    have HX7 := Lib.hid (Kd.R_below (Kd.R_below (Kd.R_below HX.out HB5.out) HB6.out) HB7.out)
    go_wp2_with fail
    refine (laws_eqCellS.calls k Ax cx t1 A7 c7 t1 true w7 (Kd.R_reads' HX7.out).2.2 hlx HC7.out hl7 HEQ2.out).mono ?_
    rintro e w8 ⟨rfl, b8⟩
    have HB8 := Lib.hid b8
    clear b8
    have H37 := Lib.hid (ap_ H36.out HB7.out)
    have H38 := Lib.hid (ap_ H37.out HB8.out)
    have HX8 := Lib.hid (show Kd.R k66 66 w8 w3.heap.size (fun k => w3.heap.size ≤ k ∧ k < w4.heap.size) (.slice Ax t1.length cx) t1 from Kd.R_mono (Kd.R_below HX7.out HB8.out) (fun k hk => ⟨hk.2.1, hk.2.2.1⟩))
    have HG8 := Lib.hid (Kd.S_below (Kd.S_below (Kd.S_below HG.out HB6.out) HB7.out) HB8.out)
    have HW8 := Lib.hid (Kd.V_below (Kd.V_below (Kd.V_below HW5.out HB6.out) HB7.out) HB8.out)
    clear HX7
    go_wp2_with fail
    refine (laws_markCellS.calls k (fun k => w3.heap.size ≤ k ∧ k < w4.heap.size) (.slice Ax t1.length cx) t1 1 m ys w3 w8 H38.out HX8.out HMK.out).mono ?_
    rintro e w9 ⟨rfl, _, b9, k9⟩
    have HB9 := Lib.hid b9
    have HG9 := Lib.hid (Kd.S_kept HG8.out k9 (fun k h1 h2 => by omega))
    have HW9 := Lib.hid (Kd.V_kept HW8.out k9 (fun k h1 h2 => by omega))
    have hz9 : w8.heap.size ≤ w9.heap.size := k9.1
    clear b9 k9
    go_wp2_with fail
    have hz34 : w3.heap.size ≤ w4.heap.size := HB4.out.size
    refine (laws_eqCellSS.calls k Ag cg g1 Aw cw r1 true w9 (Kd.S_reads' HG9.out).2.2 hlg (Kd.V_reads' HW9.out).2.2 hlw HEQ.out).mono ?_
    rintro e w10 ⟨rfl, b10⟩
    have HB10 := Lib.hid b10
    clear b10
    go_wp2_with fail
    have H310 := Lib.hid (ap_ HB9.out HB10.out)
    have HG10 := Lib.hid (Kd.S_lower (Kd.S_below HG9.out HB10.out) hz34)
    have HW10 := Lib.hid (Kd.V_below HW9.out HB10.out)
    refine (markCellSS_calls g1 1 (.slice Ag g1.length cg) (fun k => w4.heap.size ≤ k) w3 w10 H310.out HG10.out (by omega) HCC.out.1 HCC.out.2).mono ?_
    rw [← HTT.out]
    rintro e w11 ⟨rfl, b11, k11, hc11⟩
    have HB11 := Lib.hid b11
    have HM := Lib.hid (hc11 Ag cg rfl)
    have HW11 := Lib.hid (Kd.V_kept HW10.out k11 (fun k h1 h2 => by omega))
    clear b11 k11 hc11
    have C36 := Lib.hid (fun (W : World) (hb : Below w11.heap.size w11 W) => laws_heldCellSS.calls k Ag cg (mkd g1 1) 1 tt W (by rw [mkd_len]; exact Kd.C_below HM.out hb) (by rw [mkd_len]; exact hlg) (by rw [HHE.out, HTT.out]))
    rw [mkd_len] at C36
    go_wp2_with fail
    refine (C36.out w11 (aq_ _ _)).mono ?_
    rintro e w12 ⟨rfl, ⟨nd2, rfl⟩⟩
    have HB12 := Lib.hid (ag_ (aq_ w11.heap.size w11) nd2)
    generalize hw12 : w11.drewN nd2 = w12 at HB12
    clear hw12
    have HT3 := Lib.hid HB3.out
    have HT11 := Lib.hid (show Below w.heap.size w w11 from (HT3.out).trans (HB11.out.mono HT3.out.size))
    have HT12 := Lib.hid (ap_ HT11.out HB12.out)
    go_wp2_with fail
    refine (laws_toCellS.calls k A0 c0 l0 t1 w12 (Kd.C_below HR0.out HT12.out) hc0 HTC.out).mono ?_
    rintro e w13 ⟨v13, rfl, h1, b13⟩
    obtain ⟨A13, c13, hv13, hl13, _⟩ := Kd.R_reads h1
    subst hv13
    have HB13 := Lib.hid b13
    have HC13 := Lib.hid (Kd.R_reads' h1).2.2
    clear h1 b13
    go_wp2_with fail
    refine (StepsOf_calls t1 A13 c13 w13 HC13.out hl13).mono ?_
    rw [HSO.out]
    rintro e w14 ⟨vh, rfl, hS, b14⟩
    obtain ⟨Ah, ch, hvh⟩ := Kd.S_slice hS
    subst hvh
    have HB14 := Lib.hid b14
    have HH := Lib.hid (Kd.S_reads' hS).2.2
    have hlh := (Kd.S_reads' hS).2.1
    clear hS b14
    have HW14 := Lib.hid (Kd.V_below (Kd.V_below (Kd.V_below HW11.out HB12.out) HB13.out) HB14.out)
    go_wp2_with fail
    refine (laws_eqCellSS.calls k Ah ch g1 Aw cw r1 true w14 HH.out hlh (Kd.V_reads' HW14.out).2.2 hlw HEQ.out).mono ?_
    rintro e w15 ⟨rfl, b15⟩
    have HB15 := Lib.hid b15
    clear b15
    have H1115 := Lib.hid (ap_ (ap_ (ap_ HB12.out HB13.out) HB14.out) HB15.out)
    go_wp2_with fail
    refine (C36.out w15 H1115.out).mono ?_
    rintro e w16 ⟨rfl, ⟨nd3, rfl⟩⟩
    have HB16 := Lib.hid (ag_ (aq_ w15.heap.size w15) nd3)
    generalize hw16 : w15.drewN nd3 = w16 at HB16
    clear hw16
    go_wp2
    go_ret
    exact ⟨rfl, ap_ (ap_ HT11.out H1115.out) HB16.out⟩
end Go.Proofs.Ytgoiifpimpnlpaa.PAll

end

section
namespace Go.Proofs.Ytgoiifpimpnlpaa.PAll
open Go.RowKit Go.Proofs.YtgoiifpimpnlpaaW.PrintWords Go.Proofs.YtgoiifpimpnlpaaW.PrintLast Go.Proofs.YtgoiifpimpnlpaaW.PrintMore
set_option linter.unusedVariables false
set_option linter.unusedSimpArgs false
mutual
/-- All contractions in a term have room. -/
def stSm : Tm → Bool
  | .mk k n ks => (if redexB k ks = true then decide ((contrT k ks).cnt ≤ 600) else true) && stSms ks
def stSms : List Tm → Bool
  | [] => true
  | t :: ts => stSm t && stSms ts
end
theorem stSm_mk (k n : Int) (ks : List Tm) : stSm (.mk k n ks) = ((if redexB k ks = true then decide ((contrT k ks).cnt ≤ 600) else true) && stSms ks) := by simp [stSm]
theorem cnts_set_swap (u : Tm) : ∀ (ks : List Tm) (i : Nat) (t : Tm), ks[i]? = some t → cnts (ks.set i u) + t.cnt = cnts ks + u.cnt
  | [], i, t, h => by simp at h
  | a :: ts, 0, t, h => by simp at h; subst h; simp only [List.set_cons_zero, cnts]; omega
  | a :: ts, i + 1, t, h => by
    simp only [List.getElem?_cons_succ] at h
    have := cnts_set_swap u ts i t h
    simp only [List.set_cons_succ, cnts]; omega
theorem cnts_set_ge (u : Tm) (ks : List Tm) (i : Nat) (h : i < ks.length) : u.cnt ≤ cnts (ks.set i u) :=
  cnt_mem (List.mem_of_getElem? (i := i) (by rw [List.getElem?_set_self h]))
theorem wfs_set {u : Tm} (hu : u.wf) : ∀ (l : List Tm) (j : Nat), wfs l → wfs (l.set j u)
  | [], j, _ => by simp [wfs]
  | x :: l, 0, h => by simp only [wfs] at h; simp only [List.set_cons_zero, wfs]; exact ⟨hu, h.2⟩
  | x :: l, j + 1, h => by simp only [wfs] at h; simp only [List.set_cons_succ, wfs]; exact ⟨h.1, wfs_set hu l j h.2⟩
theorem stepsK_mem {k n : Int} {ks0 : List Tm} {u : Tm} : ∀ (ts : List Tm) (s : Nat), u ∈ stepsK k n ks0 s ts → ∃ i t v, ts[i]? = some t ∧ v ∈ stepsT t ∧ u = .mk k n (ks0.set (s + i) v)
  | [], s, h => by simp [stepsK] at h
  | a :: ts, s, h => by
    simp only [stepsK, List.mem_append, List.mem_map] at h
    rcases h with ⟨v, hv, rfl⟩ | h
    · exact ⟨0, a, v, rfl, hv, rfl⟩
    · obtain ⟨i, t, v, hi, hv, rfl⟩ := stepsK_mem ts (s + 1) h
      exact ⟨i + 1, t, v, hi, hv, by rw [show s + 1 + i = s + (i + 1) by omega]⟩
theorem stepsK_mem' {k n : Int} {ks0 : List Tm} : ∀ (ts : List Tm) (s i : Nat) (t v : Tm), ts[i]? = some t → v ∈ stepsT t → Tm.mk k n (ks0.set (s + i) v) ∈ stepsK k n ks0 s ts
  | [], s, i, t, v, h, _ => by simp at h
  | a :: ts, s, 0, t, v, h, hv => by
    simp at h; subst h
    simp only [stepsK, List.mem_append, List.mem_map]
    exact .inl ⟨v, hv, rfl⟩
  | a :: ts, s, i + 1, t, v, h, hv => by
    simp only [List.getElem?_cons_succ] at h
    simp only [stepsK, List.mem_append]
    have := stepsK_mem' (k := k) (n := n) (ks0 := ks0) ts (s + 1) i t v h hv
    rw [show s + 1 + i = s + (i + 1) by omega] at this
    exact .inr this
theorem stSms_get : ∀ (ks : List Tm) (i : Nat) (t : Tm), stSms ks = true → ks[i]? = some t → stSm t = true
  | [], i, t, _, h => by simp at h
  | a :: ts, 0, t, hs, h => by simp at h; subst h; simp only [stSms, Bool.and_eq_true] at hs; exact hs.1
  | a :: ts, i + 1, t, hs, h => by
    simp only [List.getElem?_cons_succ] at h
    simp only [stSms, Bool.and_eq_true] at hs
    exact stSms_get ts i t hs.2 h
theorem stSms_no : ∀ (ks : List Tm), stSms ks = false → ∃ (i : Nat) (t : Tm), ks[i]? = some t ∧ stSm t = false
  | [], h => by simp [stSms] at h
  | a :: ts, h => by
    simp only [stSms, Bool.and_eq_false_iff] at h
    rcases h with h | h
    · exact ⟨0, a, rfl, h⟩
    · obtain ⟨i, t, hi, ht⟩ := stSms_no ts h
      exact ⟨i + 1, t, hi, ht⟩
theorem stSm_no (t : Tm) : stSm t = false → ∃ u ∈ stepsT t, 600 < u.cnt := by
  induction t using Tm.ind with
  | h k n ks ih =>
    intro h
    rw [stSm_mk, Bool.and_eq_false_iff] at h
    rw [stepsT_mk]
    rcases h with h | h
    · by_cases hr : redexB k ks = true
      · rw [if_pos hr, decide_eq_false_iff_not] at h
        exact ⟨contrT k ks, by rw [if_pos hr]; simp, by omega⟩
      · rw [if_neg hr] at h; cases h
    · obtain ⟨i, t, hi, ht⟩ := stSms_no ks h
      obtain ⟨v, hv, hc⟩ := ih t (List.mem_of_getElem? hi) ht
      have hlt : i < ks.length := by
        rcases Nat.lt_or_ge i ks.length with h | h
        · exact h
        · rw [List.getElem?_eq_none h] at hi; cases hi
      have := stepsK_mem' (k := k) (n := n) (ks0 := ks) ks 0 i t v hi hv
      rw [Nat.zero_add] at this
      refine ⟨_, List.mem_append.2 (.inr this), ?_⟩
      rw [cnt_mk]
      have := cnts_set_ge v ks i hlt
      omega
theorem stSm_yes (t : Tm) {B : Int} (hB : 0 ≤ B) : t.wf → t.wn → t.vb B → stSm t = true → ∀ u ∈ stepsT t, u.cnt ≤ t.cnt + 600 ∧ u.wf := by
  induction t using Tm.ind with
  | h k n ks ih =>
    intro hwf hwn hvb h u hu
    have hw := hwf
    have hn := hwn
    have hv := hvb
    simp only [Tm.wf] at hw
    simp only [Tm.wn] at hn
    rw [vb_mk] at hv
    rw [stSm_mk, Bool.and_eq_true] at h
    rw [stepsT_mk, List.mem_append] at hu
    rcases hu with hu | hu
    · by_cases hr : redexB k ks = true
      · rw [if_pos hr] at hu h
        rw [List.mem_singleton.1 hu]
        have := h.1
        rw [decide_eq_true_eq] at this
        exact ⟨by omega, (contr_all hr hB hwf hwn hvb).2.1⟩
      · rw [if_neg hr] at hu; cases hu
    · obtain ⟨i, t, v, hi, hv', rfl⟩ := stepsK_mem ks 0 hu
      have hm := List.mem_of_getElem? hi
      obtain ⟨h1, h2⟩ := ih t hm (wfs_get hw.2 _ hm) (wns_get hn.2 _ hm) (vbs_get hv.2 _ hm) (stSms_get ks i t h.2 hi) v hv'
      rw [Nat.zero_add]
      have := cnts_set_swap v ks i t hi
      rw [cnt_mk, cnt_mk]
      refine ⟨by omega, ?_⟩
      simp only [Tm.wf]
      exact ⟨by rw [hw.1]; simp, wfs_set h2 _ _ hw.2⟩
def encSt (t : Tm) : List S62 × Bool := if stSm t = true then (tvs (stepsT t), true) else ([], false)
theorem tvs_set (u : Tm) : ∀ (ks : List Tm) (i : Nat), (tvs ks).set i (tv u) = tvs (ks.set i u)
  | [], i => by simp [tvs]
  | t :: ts, 0 => by simp [tvs]
  | t :: ts, i + 1 => by simp [tvs, tvs_set u ts i]
theorem with_eq (k n : Int) (ks : List Tm) (hk : ks.length ≤ 3) (i : Nat) (hi : i < ks.length) (u : Tm) : spec_l4With.f k n (tvs ks) (i : Int) (tv u).f0 (tv u).f1 (tv u).f2 = some (k, n, tvs (ks.set i u)) := by
  unfold spec_l4With.f
  simp only [Option.bind_some, List.nil_append, List.length_nil, Nat.zero_add]
  rw [tvs_length, if_pos (by omega), if_pos (by omega), if_pos (by omega), eta62, Int.toNat_natCast, tvs_set]
theorem l4in_eq (k n : Int) (ks : List Tm) (hk : ks.length ≤ 3) (i : Nat) (hi : i < ks.length) : ∀ (us : List Tm) (acc : List S62), acc.length + us.length < 1000000000 → l4in k n (tvs ks) (i : Int) (tvs us) acc = some (acc ++ tvs (us.map fun u => .mk k n (ks.set i u)))
  | [], acc, _ => by simp [l4in, tvs]
  | u :: us, acc, h => by
    simp only [List.length_cons] at h
    simp only [tvs, l4in]
    rw [with_eq k n ks hk i hi u, Option.bind_some, if_pos (by omega), l4in_eq k n ks hk i hi us _ (by simp; omega)]
    simp [tvs, tv_f]
theorem l4lp_eq (f : Int → Int → List S62 → Option (List S62 × Bool)) (k n : Int) (ks : List Tm) (hk : ks.length ≤ 3) (hf : ∀ t ∈ ks, f (tv t).f0 (tv t).f1 (tv t).f2 = some (encSt t)) :
    ∀ (ts : List Tm) (i : Nat) (acc : List S62), i + ts.length = ks.length → (∀ t ∈ ts, t ∈ ks) → acc.length + cnts ts < 1000000000 → l4lp f k n (tvs ks) i (tvs ts) acc = some (if stSms ts = true then (acc ++ tvs (stepsK k n ks i ts), true) else ([], false))
  | [], i, acc, _, _, _ => by simp [l4lp, tvs, stSms, stepsK]
  | t :: ts, i, acc, hi, hm, ha => by
    simp only [List.length_cons] at hi
    simp only [cnts] at ha
    simp only [tvs, l4lp]
    rw [hf t (hm t (by simp)), Option.bind_some]
    have hl := stepsT_len t
    unfold encSt
    by_cases h : stSm t = true
    · rw [if_pos h]
      simp only [if_true]
      rw [tvs_length, if_pos (by omega), l4in_eq k n ks hk i (by omega) _ _ (by omega), Option.bind_some, l4lp_eq f k n ks hk hf ts (i + 1) _ (by omega) (fun x hx => hm x (by simp [hx])) (by rw [List.length_append, tvs_length, List.length_map]; omega)]
      simp only [stSms, h, Bool.true_and]
      congr 1
      split
      · simp [stepsK, tvs_map]
      · rfl
    · have h' : stSm t = false := by simpa using h
      simp [h', stSms]
theorem l4st_eq {B : Int} (hB0 : 0 ≤ B) (hB : B ≤ 1000000000) (t : Tm) : t.wf → t.wn → t.vb B → t.cnt ≤ 600 → ∀ q, t.cnt + 12000 ≤ q → l4st q (tv t).f0 (tv t).f1 (tv t).f2 = some (encSt t) := by
  induction t using Tm.ind with
  | h k n ks ih =>
    intro hwf hwn hvb hc q hq
    have hw := hwf
    have hn := hwn
    have hv := hvb
    simp only [Tm.wf] at hw
    simp only [Tm.wn] at hn
    rw [vb_mk] at hv
    have hc' := hc
    rw [cnt_mk] at hc' hq
    have hk3 : ks.length ≤ 3 := by have := arI_bd k; omega
    obtain ⟨q, rfl⟩ : ∃ m, q = m + 1 := ⟨q - 1, by omega⟩
    have hf : ∀ t ∈ ks, l4st q (tv t).f0 (tv t).f1 (tv t).f2 = some (encSt t) := fun t ht => ih t ht (wfs_get hw.2 _ ht) (wns_get hn.2 _ ht) (vbs_get hv.2 _ ht) (by have := cnt_mem ht; omega) q (by have := cnt_mem ht; omega)
    rw [tv_f]
    simp only [l4st]
    rw [tvs_length, if_pos (by omega), redex_eq k n ks hwf hwn, Option.bind_some]
    unfold encSt
    rw [stSm_mk, stepsT_mk]
    by_cases hr : redexB k ks = true
    · rw [if_pos hr, if_pos hr, if_pos hr, contract_eq hr (by omega) hwf hwn hvb hc q (by omega), Option.bind_some]
      by_cases h6 : (contrT k ks).cnt ≤ 600
      · rw [small_le h6]
        simp only [enc4, if_true, eta62]
        rw [l4lp_eq _ k n ks hk3 hf ks 0 _ (by omega) (fun _ h => h) (by simp; omega), ao_ h6, Bool.true_and]
        congr 1
      · rw [small_gt h6, decide_eq_false h6]
        simp [enc4]
    · rw [if_neg hr, if_neg hr, if_neg hr, l4lp_eq _ k n ks hk3 hf ks 0 _ (by omega) (fun _ h => h) (by simp; omega), Bool.true_and]
      congr 1
theorem stepsOf_eq (l : List S66) : stepsOf l = match tmof l with
    | none => ([], false)
    | some t => if (stepsT t).all (fun u => (goodOfT u).2) = true then ((stepsT t).map fun u => (goodOfT u).1, true) else ([], false) := rfl
theorem tellLoop_eq (us : List Tm) (hu : ∀ u ∈ us, u.wf ∧ u.cnt < 2000) (hl : us.length ≤ 1000000) : ∀ (d i k : Nat) (acc : List (List S66)), i + d = us.length → acc.length = i → d + 3606 < k → spec_StepsOf.l0 k acc (tvs us) (us.length : Int) (i : Int) = some (if (us.drop i).all (fun u => (goodOfT u).2) = true then (acc ++ (us.drop i).map (fun u => (goodOfT u).1), true) else ([], false)) := by
  intro d
  induction d with
  | zero =>
    intro i k acc hi ha hk
    obtain ⟨k, rfl⟩ : ∃ m, k = m + 1 := ⟨k - 1, by omega⟩
    simp only [spec_StepsOf.l0]
    rw [if_neg (by omega), List.drop_eq_nil_of_le (by omega)]
    simp
  | succ d ih =>
    intro i k acc hi ha hk
    obtain ⟨k, rfl⟩ : ∃ m, k = m + 1 := ⟨k - 1, by omega⟩
    have hlt : i < us.length := by omega
    have hg : us[i]? = some us[i] := by simp [hlt]
    have hm := hu us[i] (List.getElem_mem hlt)
    have hd : us.drop i = us[i] :: us.drop (i + 1) := by rw [List.drop_eq_getElem_cons hlt]
    simp only [spec_StepsOf.l0]
    rw [if_pos (by omega), if_pos (by omega), tvs_length, if_pos (by omega), rd62_get us i _ hg, l3Tell_eq _ hm.1 hm.2 k (by omega), Option.bind_some, wrap_id (x := (i : Int) + 1) (by omega) (by omega), hd]
    have e : (i : Int) + 1 = ((i + 1 : Nat) : Int) := by omega
    by_cases h : (goodOfT us[i]).2 = true
    · rw [if_pos h, if_pos (by omega), e, ih (i + 1) k _ (by omega) (by simp [ha]) (by omega)]
      simp only [List.all_cons, h, Bool.true_and, List.map_cons]
      congr 1
      split
      · simp
      · rfl
    · rw [if_neg h]
      have h' : (goodOfT us[i]).2 = false := by simpa using h
      rw [List.all_cons, h', Bool.false_and]
      rfl
theorem StepsOf_eq (l : List S66) (k : Nat) (hk : 30000 ≤ k) : spec_StepsOf.f k l = some (stepsOf l) := by
  have h := l3Tree_eq l k (by omega)
  rw [stepsOf_eq]
  unfold spec_StepsOf.f
  cases hq : tmof l with
  | none => rw [hq] at h; obtain ⟨b, n, ks, h⟩ := h; rw [h, Option.bind_some, if_neg (by simp)]
  | some t =>
    rw [hq] at h
    simp only at h ⊢
    have hw := tmof_wf hq
    have hn := tmof_wn hq
    have hv := tmof_vb hq
    rw [h, Option.bind_some, if_pos rfl]
    simp only [spec_l4Steps.f]
    rw [l4st_eq (B := 99) (by omega) (by omega) t hw hn hv.1 hv.2 k (by omega), Option.bind_some]
    unfold encSt
    by_cases hs : stSm t = true
    · rw [if_pos hs]
      simp only [if_true]
      have hy := stSm_yes t (B := 99) (by omega) hw hn hv.1 hs
      have hl := stepsT_len t
      have L := tellLoop_eq (stepsT t) (fun u hu => ⟨(hy u hu).2, by have := (hy u hu).1; omega⟩) (by omega) (stepsT t).length 0 k [] (by omega) rfl (by omega)
      simp only [Int.cast_ofNat_Int, List.drop_zero, List.nil_append] at L
      rw [tvs_length, L]
    · rw [if_neg hs]
      have hs' : stSm t = false := by simpa using hs
      obtain ⟨u, hu, hc⟩ := stSm_no t hs'
      have : (stepsT t).all (fun u => (goodOfT u).2) = false := by
        rw [List.all_eq_false]
        refine ⟨u, hu, ?_⟩
        simp [goodOfT, show ¬ u.cnt ≤ 600 by omega]
      rw [this]
      simp
theorem stepsOf_len (l : List S66) : (stepsOf l).1.length ≤ 600 ∧ ∀ x ∈ (stepsOf l).1, x.length ≤ 600 := by
  rw [stepsOf_eq]
  cases hq : tmof l with
  | none => simp
  | some t =>
    have hv := tmof_vb hq
    have hl := stepsT_len t
    simp only
    split
    · refine ⟨by simp; omega, ?_⟩
      intro x hx
      obtain ⟨u, _, rfl⟩ := List.mem_map.1 hx
      exact goodOfT_len u
    · simp
theorem tot_le {α : Type} (m : Nat) : ∀ (ls : List (List α)), (∀ x ∈ ls, x.length ≤ m) → tot ls ≤ m * ls.length
  | [], _ => by simp [tot]
  | l :: ls, h => by
    have h1 := h l (by simp)
    have h2 := tot_le m ls (fun x hx => h x (by simp [hx]))
    simp only [tot, List.length_cons]
    have : (m : Int) * ((ls.length + 1 : Nat) : Int) = m * ls.length + m := by rw [Int.natCast_add, Int.mul_add]; simp
    omega
theorem rdL4 (ls : List (List S66)) (i : Nat) (l : List S66) (h : ls[i]? = some l) : rd_L4 ls (i : Int) = l := by
  simp [rd_L4, List.getD_eq_getElem?_getD, h]
theorem eqSS_loop (ls : List (List S66)) (hm : ∀ x ∈ ls, x.length ≤ 600) (hn : ls.length ≤ 1000000) : ∀ (d k i : Nat), i + d = ls.length → d + 601 < k → laws_eqCellSS.l0 k ls ls (i : Int) = some true := by
  intro d
  induction d with
  | zero =>
    intro k i hi hk
    obtain ⟨k, rfl⟩ : ∃ m, k = m + 1 := ⟨k - 1, by omega⟩
    simp only [laws_eqCellSS.l0]
    rw [if_neg (by omega)]
  | succ d ih =>
    intro k i hi hk
    obtain ⟨k, rfl⟩ : ∃ m, k = m + 1 := ⟨k - 1, by omega⟩
    have hlt : i < ls.length := by omega
    have hg : ls[i]? = some ls[i] := by simp [hlt]
    have h6 := hm _ (List.getElem_mem hlt)
    simp only [laws_eqCellSS.l0]
    rw [if_pos (by omega), if_pos (by omega), if_pos (by omega), rdL4 ls i _ hg, eqCellS_self _ (by omega) k (by omega), Option.bind_some, if_pos rfl, wrap_id (x := (i : Int) + 1) (by omega) (by omega)]
    exact ih k (i + 1) (by omega) (by omega)
theorem eqCellSS_self (ls : List (List S66)) (hm : ∀ x ∈ ls, x.length ≤ 600) (hn : ls.length ≤ 1000000) (k : Nat) (hk : ls.length + 601 < k) : laws_eqCellSS.f k ls ls = some true := by
  unfold laws_eqCellSS.f
  rw [if_pos rfl]
  exact eqSS_loop ls hm hn ls.length k 0 (by omega) hk
theorem mkrow_at : ∀ (n : Nat) (a : Int) (i : Nat), i < n → (mkrow n a)[i]? = some ⟨a + 2 * (i : Int), a + 2 * (i : Int) + 1⟩
  | 0, a, i, h => by omega
  | n + 1, a, 0, h => by simp [mkrow]
  | n + 1, a, i + 1, h => by
    simp only [mkrow, List.getElem?_cons_succ]
    rw [mkrow_at n (a + 2) i (by omega)]
    congr 2 <;> omega
theorem heldRow_loop (n : Nat) (hn : n ≤ 1000000) (a : Int) (h0 : 0 ≤ a) (h1 : a ≤ 1000000000000) : ∀ (d k i : Nat), i + d = n → d < k → laws_heldCellS.l0 k (mkrow n a) (a + 2 * (i : Int)) (i : Int) = some (a + 2 * (n : Int)) := by
  intro d
  induction d with
  | zero =>
    intro k i hi hk
    obtain ⟨k, rfl⟩ : ∃ m, k = m + 1 := ⟨k - 1, by omega⟩
    simp only [laws_heldCellS.l0]
    rw [mkrow_len, if_neg (by omega)]
    obtain rfl : i = n := by omega
    rfl
  | succ d ih =>
    intro k i hi hk
    obtain ⟨k, rfl⟩ : ∃ m, k = m + 1 := ⟨k - 1, by omega⟩
    have hr : rd_T66 (mkrow n a) (i : Int) = ⟨a + 2 * (i : Int), a + 2 * (i : Int) + 1⟩ := by simp only [rd_T66, Int.toNat_natCast, List.getD_eq_getElem?_getD]; rw [mkrow_at n a i (by omega)]; rfl
    simp only [laws_heldCellS.l0, hr]
    rw [mkrow_len, if_pos (by omega), if_pos (by omega), if_pos trivial, wrap_id (x := a + 2 * (i : Int) + 1) (by omega) (by omega), if_pos (by omega), wrap_id (x := (i : Int) + 1) (by omega) (by omega), wrap_id (by omega) (by omega)]
    have e1 : a + 2 * (i : Int) + 1 + 1 = a + 2 * ((i + 1 : Nat) : Int) := by omega
    have e2 : (i : Int) + 1 = ((i + 1 : Nat) : Int) := by omega
    rw [e1, e2]
    exact ih k (i + 1) (by omega) (by omega)
theorem heldRow_eq (n : Nat) (hn : n ≤ 1000000) (a : Int) (h0 : 0 ≤ a) (h1 : a ≤ 1000000000000) (k : Nat) (hk : n < k) : laws_heldCellS.f k (mkrow n a) a = some (a + 2 * (n : Int)) := by
  unfold laws_heldCellS.f
  have := heldRow_loop n hn a h0 h1 n k 0 (by omega) hk
  simpa using this
theorem heldSS_loop (ls : List (List S66)) (hm : ∀ x ∈ ls, x.length ≤ 600) (hn : ls.length ≤ 600) : ∀ (d k i : Nat), i + d = ls.length → d + 601 < k → laws_heldCellSS.l0 k (mkd ls 1) (1 + 2 * tot (ls.take i)) (i : Int) = some (1 + 2 * tot ls) := by
  intro d
  induction d with
  | zero =>
    intro k i hi hk
    obtain ⟨k, rfl⟩ : ∃ m, k = m + 1 := ⟨k - 1, by omega⟩
    simp only [laws_heldCellSS.l0]
    rw [mkd_len, if_neg (by omega), List.take_of_length_le (by omega)]
  | succ d ih =>
    intro k i hi hk
    obtain ⟨k, rfl⟩ : ∃ m, k = m + 1 := ⟨k - 1, by omega⟩
    have hlt : i < ls.length := by omega
    have hg : ls[i]? = some ls[i] := by simp [hlt]
    have h6 := hm _ (List.getElem_mem hlt)
    have ht := tot_take ls i _ hg
    have ht0 := tot_pos (ls.take i)
    have ht1 := tot_take_le ls i
    have hT := tot_le 600 ls hm
    have ht2 := tot_pos (ls.take (i + 1))
    simp only [laws_heldCellSS.l0]
    rw [mkd_len, if_pos (by omega), if_pos (by omega), rdL4 _ i _ (mkd_at ls 1 i _ hg), heldRow_eq _ (by omega) _ (by omega) (by omega) k (by omega), Option.bind_some, if_neg (by omega), wrap_id (x := (i : Int) + 1) (by omega) (by omega)]
    have e : 1 + 2 * tot (ls.take i) + 2 * ((ls[i]).length : Int) = 1 + 2 * tot (ls.take (i + 1)) := by omega
    rw [e]
    exact ih k (i + 1) (by omega) (by omega)
theorem heldCellSS_eq (ls : List (List S66)) (hm : ∀ x ∈ ls, x.length ≤ 600) (hn : ls.length ≤ 600) (k : Nat) (hk : ls.length + 601 < k) : laws_heldCellSS.f k (mkd ls 1) 1 = some (1 + 2 * tot ls) := by
  unfold laws_heldCellSS.f
  have := heldSS_loop ls hm hn ls.length k 0 (by omega) hk
  simpa [tot] using this
theorem FnExactStepsOf_pure (l0 : List S68) (g0 : l0.length ≤ 9223372036854775807 ∧ ∀ xl0_ ∈ l0, ((Lit.int .i64 xl0_.f0).wf = true ∧ (Lit.int .i64 xl0_.f1).wf = true)) : ∃ k, lawStepsF k l0 = some true := by
  refine ⟨1050004, ?_⟩
  unfold lawStepsF laws_szCellS.f
  by_cases h : wrap64 (1048576 - (l0.length : Int)) < 0
  · rw [if_pos h]; simp
  · have hl : l0.length ≤ 17592186044416 ∧ l0.length < 1050000 := by have := g0.1; unfold wrap64 at h; omega
    rw [if_neg h]
    simp only [Option.bind_some]
    rw [if_neg h]
    obtain ⟨hl, hk⟩ := hl
    obtain ⟨hn, hm⟩ := stepsOf_len (l0.map cvM)
    obtain ⟨zs, hz⟩ := markFrom_eq (l0.map cvM) (by simpa using hl) 1 (by omega) 1050004 (by simp; omega)
    simp only [Int.cast_ofNat_Int] at hz
    have hT := tot_le 600 _ hm
    rw [toCellS_eq l0 hl _ (by omega)]
    simp only [Option.bind_some]
    rw [StepsOf_eq _ _ (by omega)]
    simp only [Option.bind_some]
    rw [eqCellSS_self _ hm (by omega) _ (by omega)]
    simp only [Option.bind_some, if_true]
    rw [eqCellS_self _ (by simpa using hl) _ (by simp; omega)]
    simp only [Option.bind_some, if_true]
    rw [hz]
    simp only [Option.bind_some]
    rw [if_pos (by omega), if_pos ⟨by omega, by omega⟩, heldCellSS_eq _ hm hn _ (by omega)]
    simp
end Go.Proofs.Ytgoiifpimpnlpaa.PAll

end

section
namespace Go.Proofs.YtgoiifpimpnlpaaW.Opens
open Go.RowKit Go.Proofs.YtgoiifpimpnlpaaW.PrintWords Go.ChangeShapes Go.WideShapes Go.Deep Go.Joins
def Opn {α : Type} (P : Program) (t : TypeId) (d : Kd α) (G : α → Prop) : Prop :=
  ∀ {H : Type} (enc : TypeId × Value → H) (w : World) (base : Nat) (spare : Nat → Bool) (held : Bool) (fuel : Nat) (cs : List Value) (x : DataW H × List MemPlace),
    DataW.trod enc P w base spare held fuel t cs = some x → ∃ a, d.K w a cs ∧ G a
theorem opn_int {P : Program} {t : TypeId} {k : IntKind} (ht : P.underlying t = some (.int k)) : Opn P t (Kd.int k) (fun n => (Lit.int k n).wf = true) := by
  intro H enc w base spare held fuel cs x h
  obtain ⟨n, rfl, _, hw⟩ := DataW.trod_int ht h
  exact ⟨n, rfl, hw⟩
theorem list_of {α : Type} {p : Nat → α → Prop} : ∀ {n : Nat}, (∀ i, i < n → ∃ a, p i a) → ∃ xs : List α, xs.length = n ∧ ∀ i a, xs[i]? = some a → p i a := by
  intro n
  induction n with
  | zero => intro _; exact ⟨[], rfl, fun i a h => by simp at h⟩
  | succ n ih =>
    intro h
    obtain ⟨xs, hl, hx⟩ := ih (fun i hi => h i (by omega))
    obtain ⟨a, ha⟩ := h n (by omega)
    refine ⟨xs ++ [a], by simp [hl], fun i b hb => ?_⟩
    rcases Nat.lt_or_ge i xs.length with hi | hi
    · rw [List.getElem?_append_left hi] at hb; exact hx i b hb
    · rw [List.getElem?_append_right hi] at hb
      have : i - xs.length = 0 := by
        rcases Nat.eq_zero_or_pos (i - xs.length) with h0 | h0
        · exact h0
        · rw [List.getElem?_eq_none (by simp; omega)] at hb; cases hb
      rw [this] at hb
      simp at hb
      subst hb
      rw [show i = n by omega]
      exact ha
theorem opn_slice {α : Type} {P : Program} {t e : TypeId} {d : Kd α} {G : α → Prop} (ht : P.underlying t = some (.slice e)) (hc : P.cellsOf e = d.sz) (h : Opn P e d G) : Opn P t (Kd.slice e d) (fun xs => xs.length ≤ 9223372036854775807 ∧ ∀ x ∈ xs, G x) := by
  intro H enc w base spare held fuel cs x hx
  rcases DataW.trod_slice ht hx with ⟨rfl, _⟩ | ⟨a, len, cap, elems, rest, n, _, rfl, _, hb, hl, hm, hlen, hel, _, _⟩
  · exact ⟨[], ⟨none, 0, rfl, Nat.le_refl _, ⟨rfl, by simp, fun h0 => absurd h0 (by simp)⟩⟩, by simp, fun x hx => by cases hx⟩
  · obtain ⟨xs, hxl, hxs⟩ := list_of (n := len) (p := fun i a' => (∃ c, w.cells? base (a.add (i * P.cellsOf e)) (P.cellsOf e) = some c ∧ d.K w a' c) ∧ G a') (fun i hi => by
      have he := hel i hi
      rw [List.getElem?_eq_getElem (show i < elems.length by omega)] at he
      obtain ⟨c, h1, h2⟩ := Option.bind_eq_some_iff.1 he
      obtain ⟨a', hk, hg⟩ := h enc w base spare held n c _ h2
      exact ⟨a', ⟨c, h1, hk⟩, hg⟩)
    have hxm : xs.length ≤ 9223372036854775807 := by rw [hxl]; have := hm; simp only [maxLen] at this; omega
    refine ⟨xs, ⟨some a, cap, by rw [hxl], by omega, ⟨rfl, hxm, fun _ => ⟨a, rfl, fun j p hj => ?_⟩⟩⟩, hxm, fun x hx => ?_⟩
    · obtain ⟨⟨c, h1, hk⟩, _⟩ := hxs j p hj
      obtain ⟨h2, h3, h4⟩ := World.cells?_some h1
      refine ⟨c, d.K_len hk, hk, fun i u hu => ?_⟩
      have hi : i < P.cellsOf e := by rw [← h3]; exact (List.getElem?_eq_some_iff.1 hu).1
      have := h4 i hi
      rw [Go.Deep.add_add, hu, hc] at this
      exact this
    · obtain ⟨i, hi, rfl⟩ := List.getElem_of_mem hx
      exact (hxs i _ (List.getElem?_eq_getElem hi)).2
theorem opn_iso {α β : Type} {P : Program} {t : TypeId} {d : Kd α} {G : α → Prop} {f : β → α} (g : α → β) (hg : ∀ a, f (g a) = a) (h : Opn P t d G) : Opn P t (Kd.iso d f) (fun b => G (f b)) := by
  intro H enc w base spare held fuel cs x hx
  obtain ⟨a, hk, ha⟩ := h enc w base spare held fuel cs x hx
  exact ⟨g a, by show d.K w (f (g a)) cs; rw [hg]; exact hk, by show G (f (g a)); rw [hg]; exact ha⟩
theorem opn_struct2 {α β : Type} {P : Program} {t : TypeId} {f0 f1 : Field} {d0 : Kd α} {d1 : Kd β} {G0 : α → Prop} {G1 : β → Prop} (ht : P.underlying t = some (.struct #[f0, f1]))
    (hs : ((f0.offset, P.cellsOf f0.type), (f1.offset, P.cellsOf f1.type), P.cellsOf t) = ((0, d0.sz), (d0.sz, d1.sz), d0.sz + d1.sz)) (h0 : Opn P f0.type d0 G0) (h1 : Opn P f1.type d1 G1) :
    Opn P t (Kd.pair d0 d1) (fun p => G0 p.1 ∧ G1 p.2) := by
  intro H enc w base spare held fuel cs x hx
  obtain ⟨y0, y1, n, _, hl, hf0, hf1⟩ := trod_struct2 ht hx
  simp only [Prod.mk.injEq] at hs
  obtain ⟨⟨a0, b0⟩, ⟨a1, b1⟩, c⟩ := hs
  rw [a0, b0] at hf0
  rw [a1, b1] at hf1
  obtain ⟨u0, k0, g0⟩ := h0 enc w base spare held n _ _ hf0
  obtain ⟨u1, k1, g1⟩ := h1 enc w base spare held n _ _ hf1
  refine ⟨(u0, u1), ⟨_, _, ?_, k0, k1⟩, g0, g1⟩
  rw [List.drop_zero, List.take_of_length_le (l := cs.drop d0.sz) (by simp; omega), List.take_append_drop]
theorem slice_came {α : Type} {P : Program} {t e : TypeId} {d : Kd α} {G : List α → Prop} (h : Opn P t (Kd.slice e d) G) {H : Type} {enc : TypeId × Value → H} {w : World} {base : Nat} {spare : Nat → Bool} {held : Bool} {dd : DataW H} {ps : List MemPlace} {A : Option Addr} {n c : Nat}
    (hd : DataW.Trod enc P w base spare held t (.slice A n c) dd ps) : ∃ xs, n = xs.length ∧ Kd.C d w A xs.length xs ∧ xs.length ≤ c ∧ G xs := by
  obtain ⟨fuel, hf⟩ := hd
  obtain ⟨xs, ⟨A', c', he, hl, hr⟩, hg⟩ := h enc w base spare held fuel _ _ hf
  simp [Value.cells] at he
  obtain ⟨rfl, rfl, rfl⟩ := he
  exact ⟨xs, rfl, hr, hl, hg⟩
end Go.Proofs.YtgoiifpimpnlpaaW.Opens

end
