-- Made by pack.py of the texts that the law reaches.
import Derived.Lib.Hide
import Derived.WalkSpells
import Derived.Test.YtgoiifpimpnlpaaV4
section
namespace Go.Proofs.Ytgoiifpimpnlpaa.PAll
open Go.RowKit Go.Proofs.YtgoiifpimpnlpaaW.PrintWords Go.Proofs.YtgoiifpimpnlpaaW.PrintLast Go.Proofs.YtgoiifpimpnlpaaW.PrintMore
set_option linter.unusedVariables false
set_option linter.unusedSimpArgs false
theorem V62_away {e base : Nat} {W : World} {ok : Nat → Prop} {g : Nat} {ad : Addr} {n c : Nat} {xs : List S62} (h : Kd.V k62 e W base ok (.slice (some ad) n c) xs) (hn : 0 < n) (hok : ∀ k, ok k → k ≠ g) : some g ≠ (Value.slice (some ad) n c).ownBlock := by
  obtain ⟨A, c', hv, hl, hf⟩ := h
  injection hv with h1 h2 h3
  subst h1 h3
  subst h2
  intro he
  have hg : g = ad.block := by simpa [Value.ownBlock] using he
  obtain ⟨ad0, A2, c2, e0, p0, p1, p2, l2, g2⟩ := at_T62 (hf W (fun _ _ _ => rfl)) 0 (by omega) (by omega)
  injection e0 with e0
  subst e0
  have hb : (ad.add (Int.toNat 0 * 3)).block = ad.block := by unfold Addr.add; split <;> simp_all
  obtain ⟨ad1, A3, c3, e1, q0, q1, _⟩ := at_T62 (hf (W.setCell ⟨(ad.add (Int.toNat 0 * 3)).block, (ad.add (Int.toNat 0 * 3)).off + 1, none⟩ (.pointer none)) (fun k hk _ => Below.heap_setCell W _ _ k (by show k ≠ (ad.add (Int.toNat 0 * 3)).block; rw [hb, ← hg]; exact hok k hk))) 0 (by omega) (by omega)
  injection e1 with e1
  subst e1
  have := World.cell?_setCell_same' W ⟨(ad.add (Int.toNat 0 * 3)).block, (ad.add (Int.toNat 0 * 3)).off + 1, none⟩ (.pointer none) (by rw [p1]; rfl)
  rw [this] at q1
  cases q1
theorem l1In59_calls (n lo hi : Int) (w : World) (h0 : lo ≤ n) (h1 : n ≤ hi) : Calls Try.prog 59 #[.int .i64 n, .int .i64 lo, .int .i64 hi] w fun e w' => e = .returned (.bool true) ∧ w = w' := by
  have c0 : decide (lo ≤ n) = true := ao_ h0
  have c1 : decide (n ≤ hi) = true := ao_ h1
  clear h0 h1
  go_enter Try.func59, Try.ntmps59
  go_wp2
  go_ret
  exact ⟨rfl, rfl⟩
set_option maxRecDepth 100000 in
set_option maxHeartbeats 4000000 in
theorem k5_calls (n x y : Int) (ad A2 A3 : Option Addr) (ad0 : Addr) (c l2 l3 c2 c3 : Nat) (ln : Nat) (w : World) (hln : 1 < ln) (p0 : w.cell? ad0 = some (.int .i64 2)) (p1 : w.cell? ⟨ad0.block, ad0.off + 1, none⟩ = some (.int .i64 x)) (p2 : w.cell? ⟨ad0.block, ad0.off + 2, none⟩ = some (.slice A2 l2 c2)) (q0 : w.cell? ⟨ad0.block, ad0.off + 3, none⟩ = some (.int .i64 2)) (q1 : w.cell? ⟨ad0.block, ad0.off + 3 + 1, none⟩ = some (.int .i64 y)) (q2 : w.cell? ⟨ad0.block, ad0.off + 3 + 2, none⟩ = some (.slice A3 l3 c3)) (h0 : -1000000 ≤ x + y) (h1 : x + y ≤ 1000000) :
    Calls Try.prog 108 #[.agg #[.int .i64 5, .int .i64 n, .slice (some ad0) ln c]] w fun e w' => e = .returned (.tuple #[.agg #[.int .i64 2, .int .i64 (x + y), .slice none 0 0], .bool true]) ∧ Below w.heap.size w w' := by
  have hb := aa_ w _ p0
  have b1 : decide ((0 : Int) < (ln : Int)) = true := ao_ (by omega)
  have b2 : decide ((1 : Int) < (ln : Int)) = true := ao_ (by omega)
  have hwr : IntKind.i64.wrap (x + y) = x + y := by rw [IntKind.wrap_i64]; omega
  have B3 : ∀ o1 o2 o3, Below w.heap.size w (((w.alloc o1).alloc o2).alloc o3) := fun o1 o2 o3 => ai_ (ai_ (ai_ (aq_ _ _) _) _) _
  have f0 : ∀ o1 o2 o3, (((w.alloc o1).alloc o2).alloc o3).cell? ⟨ad0.block, ad0.off + 3, none⟩ = some (.int .i64 2) := fun o1 o2 o3 => ((B3 o1 o2 o3).cell (p := ⟨ad0.block, ad0.off + 3, none⟩) hb).trans q0
  have f1 : ∀ o1 o2 o3, (((w.alloc o1).alloc o2).alloc o3).cell? ⟨ad0.block, ad0.off + 3 + 1, none⟩ = some (.int .i64 y) := fun o1 o2 o3 => ((B3 o1 o2 o3).cell (p := ⟨ad0.block, ad0.off + 3 + 1, none⟩) hb).trans q1
  have f2 : ∀ o1 o2 o3, (((w.alloc o1).alloc o2).alloc o3).cell? ⟨ad0.block, ad0.off + 3 + 2, none⟩ = some (.slice A3 l3 c3) := fun o1 o2 o3 => ((B3 o1 o2 o3).cell (p := ⟨ad0.block, ad0.off + 3 + 2, none⟩) hb).trans q2
  clear B3
  go_enter Try.func108, Try.ntmps108
  go_wp2_with (go_at_call 59; (try rw [hwr]); refine (l1In59_calls _ _ _ _ h0 h1).mono ?_; rintro e w' ⟨rfl, rfl⟩)
  refine bodyPost_ret (results_ct rfl _ _ (w.heap.size + 1) 62 #[.int .i64 2, .int .i64 (x + y), .slice none 0 0] (0, 0) _ rfl (ad_ (ad_ (by simpa using blk_new (w.alloc (.cells #[.int .i64 5, .int .i64 n, .slice (some ad0) ln c] 62)) (.cells #[.int .i64 2, .int .i64 (x + y), .slice none 0 0] 62)) _) _) Try.underlying62 rfl (by kernel_rfl)) rfl ?_
  exact ⟨rfl, ai_ (ai_ (ai_ (ai_ (aq_ _ _) _) _) _) _⟩
theorem k5_use {P0 : Nat → Prop} {A : Option Addr} {c : Nat} {l : List S62} {n r1 r2 : Int} {r3 : List S62} {r4 : Bool} {w : World} (hs : Kd.V k62 62 w w.heap.size (fun k_ => P0 k_) (.slice A l.length c) l) (d1 : 1 < (l.length : Int))
    (d2 : ((rd_T62 l 0).f0) = 2 ∧ ((rd_T62 l 1).f0) = 2 ∧ -1000000 ≤ ((rd_T62 l 0).f1) + ((rd_T62 l 1).f1) ∧ ((rd_T62 l 0).f1) + ((rd_T62 l 1).f1) ≤ 1000000) (H : some ((2 : Int), ((rd_T62 l 0).f1) + ((rd_T62 l 1).f1), ([] : List S62), true) = some (r1, r2, r3, r4)) :
    Calls Try.prog 108 #[.agg #[.int .i64 5, .int .i64 n, .slice A l.length c]] w fun e w' => ∃ v2_ : Value, e = .returned (.tuple #[.agg #[.int .i64 r1, .int .i64 r2, v2_], .bool r4]) ∧ Kd.V k62 62 w' w.heap.size (fun k_ => (P0 k_ ∨ w.heap.size ≤ k_)) v2_ r3 ∧ Below w.heap.size w w' := by
  obtain ⟨e0, e1, s0, s1⟩ := d2
  simp only [Option.some.injEq, Prod.mk.injEq] at H
  obtain ⟨rfl, rfl, rfl, rfl⟩ := H
  obtain ⟨A', c', hv, hl, hf⟩ := hs
  injection hv with h1 h2 h3
  subst h1
  have hC := Kd.F_now hf
  obtain ⟨ad, A2, c2, rfl, p0, p1, p2, _, _⟩ := at_T62 hC 0 (by omega) (by omega)
  obtain ⟨ad', A3, c3, e', q0, q1, q2, _, _⟩ := at_T62 hC 1 (by omega) (by omega)
  injection e' with e'
  subst e'
  rw [show ad.add (Int.toNat 0 * 3) = ad by simp [Addr.add]] at p0 p1 p2
  rw [e0] at p0
  rw [e1] at q0
  refine (k5_calls n ((rd_T62 l 0).f1) ((rd_T62 l 1).f1) none A2 A3 ad c _ _ c2 c3 l.length w (by omega) p0 p1 p2 q0 q1 q2 s0 s1).mono ?_
  rintro e w' ⟨rfl, hb⟩
  exact ⟨_, rfl, Kd.V_nil _ _ _ _ _, hb⟩
end Go.Proofs.Ytgoiifpimpnlpaa.PAll

end

section
namespace Go.Proofs.Ytgoiifpimpnlpaa.PAll
open Go.RowKit Go.Proofs.YtgoiifpimpnlpaaW.PrintWords Go.Proofs.YtgoiifpimpnlpaaW.PrintLast Go.Proofs.YtgoiifpimpnlpaaW.PrintMore
attribute [local go_sem] max2_int min2_int max_two min_two max_three min_three max_four min_four   -- for this text's walks alone
set_option linter.unusedVariables false
set_option linter.unusedSimpArgs false
def spec_l4Contract.f (k : Nat) (a0_0 : Int) (a0_1 : Int) (l0_2 : List (S62)) : Option (Int × Int × (List (S62)) × Bool) := if a0_0 = 4 then (if 0 < (l0_2.length : Int) then (if ((rd_T62 l0_2 0).f0) = 3 then (if 0 < (((rd_T62 l0_2 0).f2).length : Int) then (if 1 < (l0_2.length : Int) then ((spec_l3Put.f k ((rd_T62 ((rd_T62 l0_2 0).f2) 0).f0) ((rd_T62 ((rd_T62 l0_2 0).f2) 0).f1) ((rd_T62 ((rd_T62 l0_2 0).f2) 0).f2) 0 ((rd_T62 l0_2 1).f0) ((rd_T62 l0_2 1).f1) ((rd_T62 l0_2 1).f2)).bind fun bt477 => (some (bt477.1, bt477.2.1, bt477.2.2.1, bt477.2.2.2))) else (none)) else (none)) else (some (0, 0, ([] : List (S62)), false))) else (none)) else (if a0_0 = 7 then (if 1 < (l0_2.length : Int) then (if 0 < (l0_2.length : Int) then ((spec_l3Put.f k ((rd_T62 l0_2 1).f0) ((rd_T62 l0_2 1).f1) ((rd_T62 l0_2 1).f2) 0 ((rd_T62 l0_2 0).f0) ((rd_T62 l0_2 0).f1) ((rd_T62 l0_2 0).f2)).bind fun bt485 => (some (bt485.1, bt485.2.1, bt485.2.2.1, bt485.2.2.2))) else (none)) else (none)) else (if a0_0 = 5 then (if 1 < (l0_2.length : Int) then (if ((rd_T62 l0_2 0).f0) = 2 ∧ ((rd_T62 l0_2 1).f0) = 2 ∧ -1000000 ≤ ((rd_T62 l0_2 0).f1) + ((rd_T62 l0_2 1).f1) ∧ ((rd_T62 l0_2 0).f1) + ((rd_T62 l0_2 1).f1) ≤ 1000000 then (some (2, ((rd_T62 l0_2 0).f1) + ((rd_T62 l0_2 1).f1), ([] : List (S62)), true)) else (none)) else (none)) else (if a0_0 = 6 then (if 0 < (l0_2.length : Int) then (if ((rd_T62 l0_2 0).f0) = 2 then (if ((rd_T62 l0_2 0).f1) = 0 then (if 1 < (l0_2.length : Int) then (some ((rd_T62 l0_2 1).f0, (rd_T62 l0_2 1).f1, (rd_T62 l0_2 1).f2, true)) else (none)) else (if 2 < (l0_2.length : Int) then (some ((rd_T62 l0_2 2).f0, (rd_T62 l0_2 2).f1, (rd_T62 l0_2 2).f2, true)) else (none))) else (some (0, 0, ([] : List (S62)), false))) else (none)) else (some (0, 0, ([] : List (S62)), false)))))
def spec_l4Contract.T4 : Bool × List (List Nat × List Nat) := (true, [([], []), ([0], [0]), ([1], [1]), ([2], [2]), ([3], [3]), ([4], [4]), ([5], [5]), ([], []), ([7], [7]), ([8], [8]), ([9], [9]), ([6, 10], [6, 10]), ([11], [11]), ([11], [11]), ([12, 11, 0, 1, 2, 3, 4, 5, 6, 7, 8, 9, 10, 11, 12, 13], [12]), ([13, 14, 0, 1, 2, 3, 4, 5, 6, 7, 8, 9, 10, 11, 12, 13, 14], [13])])
def spec_l4Contract.B4 : List Nat := [0, 1, 3, 7, 15, 31, 63, 0, 128, 384, 896, 2047, 4095, 4095, 16383, 32767]
theorem spec_l4Contract.tab4 : rtab .any (opsOf Try.f108 4) = spec_l4Contract.T4 := by kernel_rfl
theorem spec_l4Contract.bits4 : waitsOk spec_l4Contract.T4.2 spec_l4Contract.B4 = true := by kernel_rfl
def spec_l4Contract.T6 : Bool × List (List Nat × List Nat) := (true, [([], []), ([0], [0]), ([1], [1]), ([2], [2]), ([], []), ([4], [4]), ([5], [5]), ([6], [6]), ([3, 7], [3, 7]), ([8], [8]), ([8], [8]), ([9, 8, 0, 1, 2, 3, 4, 5, 6, 7, 8, 9, 10], [9]), ([10, 11, 0, 1, 2, 3, 4, 5, 6, 7, 8, 9, 10, 11], [10])])
def spec_l4Contract.B6 : List Nat := [0, 1, 3, 7, 0, 16, 48, 112, 255, 511, 511, 2047, 4095]
theorem spec_l4Contract.tab6 : rtab .any (opsOf Try.f108 6) = spec_l4Contract.T6 := by kernel_rfl
theorem spec_l4Contract.bits6 : waitsOk spec_l4Contract.T6.2 spec_l4Contract.B6 = true := by kernel_rfl
set_option maxHeartbeats 8000000 in
set_option maxRecDepth 100000 in
theorem spec_l4Contract.calls (k : Nat) (a0_0 : Int) (a0_1 : Int) (P0_2_ : Nat → Prop) (A0_2 : Option Addr) (c0_2 : Nat) (l0_2 : List (S62)) (r1 : Int) (r2 : Int) (r3 : List (S62)) (r4 : Bool) (w : World) (hs0_2 : Kd.V k62 62 w w.heap.size (fun k_ => P0_2_ k_) (.slice A0_2 l0_2.length c0_2) l0_2) (h : spec_l4Contract.f k a0_0 a0_1 l0_2 = some (r1, r2, r3, r4)) :
    Calls Try.prog 108 #[.agg #[.int .i64 a0_0, .int .i64 a0_1, .slice A0_2 l0_2.length c0_2]] w fun e w' => ∃ v2_ : Value, e = .returned (.tuple #[.agg #[.int .i64 r1, .int .i64 r2, v2_], .bool r4]) ∧ Kd.V k62 62 w' w.heap.size (fun k_ => (P0_2_ k_ ∨ w.heap.size ≤ k_)) v2_ r3 ∧ Below w.heap.size w w' := by
  have hu62 := Try.underlying62
  have HO0_2 := ab_ (show Kd.V k62 62 w w.heap.size (fun k_ => (P0_2_ k_ ∨ w.heap.size ≤ k_)) (.slice A0_2 l0_2.length c0_2) l0_2 from Kd.V_mono hs0_2 (fun k_ hk => .inl hk))
  have HB := ab_ (aq_ w.heap.size w)
  have H : (if a0_0 = 4 then (if 0 < (l0_2.length : Int) then (if ((rd_T62 l0_2 0).f0) = 3 then (if 0 < (((rd_T62 l0_2 0).f2).length : Int) then (if 1 < (l0_2.length : Int) then ((spec_l3Put.f k ((rd_T62 ((rd_T62 l0_2 0).f2) 0).f0) ((rd_T62 ((rd_T62 l0_2 0).f2) 0).f1) ((rd_T62 ((rd_T62 l0_2 0).f2) 0).f2) 0 ((rd_T62 l0_2 1).f0) ((rd_T62 l0_2 1).f1) ((rd_T62 l0_2 1).f2)).bind fun bt477 => (some (bt477.1, bt477.2.1, bt477.2.2.1, bt477.2.2.2))) else (none)) else (none)) else (some (0, 0, ([] : List (S62)), false))) else (none)) else (if a0_0 = 7 then (if 1 < (l0_2.length : Int) then (if 0 < (l0_2.length : Int) then ((spec_l3Put.f k ((rd_T62 l0_2 1).f0) ((rd_T62 l0_2 1).f1) ((rd_T62 l0_2 1).f2) 0 ((rd_T62 l0_2 0).f0) ((rd_T62 l0_2 0).f1) ((rd_T62 l0_2 0).f2)).bind fun bt485 => (some (bt485.1, bt485.2.1, bt485.2.2.1, bt485.2.2.2))) else (none)) else (none)) else (if a0_0 = 5 then (if 1 < (l0_2.length : Int) then (if ((rd_T62 l0_2 0).f0) = 2 ∧ ((rd_T62 l0_2 1).f0) = 2 ∧ -1000000 ≤ ((rd_T62 l0_2 0).f1) + ((rd_T62 l0_2 1).f1) ∧ ((rd_T62 l0_2 0).f1) + ((rd_T62 l0_2 1).f1) ≤ 1000000 then (some (2, ((rd_T62 l0_2 0).f1) + ((rd_T62 l0_2 1).f1), ([] : List (S62)), true)) else (none)) else (none)) else (if a0_0 = 6 then (if 0 < (l0_2.length : Int) then (if ((rd_T62 l0_2 0).f0) = 2 then (if ((rd_T62 l0_2 0).f1) = 0 then (if 1 < (l0_2.length : Int) then (some ((rd_T62 l0_2 1).f0, (rd_T62 l0_2 1).f1, (rd_T62 l0_2 1).f2, true)) else (none)) else (if 2 < (l0_2.length : Int) then (some ((rd_T62 l0_2 2).f0, (rd_T62 l0_2 2).f1, (rd_T62 l0_2 2).f2, true)) else (none))) else (some (0, 0, ([] : List (S62)), false))) else (none)) else (some (0, 0, ([] : List (S62)), false)))))) = some (r1, r2, r3, r4) := h
  clear h
  by_cases c2 : a0_0 = 4
  · rw [if_pos c2] at H
    have c2b0 : (a0_0 == 4) = true := beq_iff_eq.mpr c2
    have c2b1 : (a0_0 != 4) = false := bne_eq_false_iff_eq.mpr c2
    clear c2
    by_cases c3 : 0 < (l0_2.length : Int)
    · rw [if_pos c3] at H
      have c3b0 : decide (0 < (l0_2.length : Int)) = true := ao_ c3
      have c3b1 : decide (0 < l0_2.length) = true := ao_ (by omega)
      have HN62 : 0 < l0_2.length := by omega
      clear c3
      by_cases c4 : ((rd_T62 l0_2 0).f0) = 3
      · rw [if_pos c4] at H
        have c4b0 : (((rd_T62 l0_2 0).f0) == 3) = true := beq_iff_eq.mpr c4
        have c4b1 : (((rd_T62 l0_2 0).f0) != 3) = false := bne_eq_false_iff_eq.mpr c4
        clear c4
        by_cases c5 : 0 < (((rd_T62 l0_2 0).f2).length : Int)
        · rw [if_pos c5] at H
          have c5b0 : decide (0 < (((rd_T62 l0_2 0).f2).length : Int)) = true := ao_ c5
          have c5b1 : decide (0 < ((rd_T62 l0_2 0).f2).length) = true := ao_ (by omega)
          have HN63 : 0 < ((rd_T62 l0_2 0).f2).length := by omega
          clear c5
          by_cases c6 : 1 < (l0_2.length : Int)
          · rw [if_pos c6] at H
            have c6b0 : decide (1 < (l0_2.length : Int)) = true := ao_ c6
            have c6b1 : decide (1 < l0_2.length) = true := ao_ (by omega)
            clear c6
            replace H := Option.bind_eq_some_iff.mp H
            obtain ⟨⟨t477, t478, t479, t482⟩, A70, H⟩ := H
            replace H : (some (t477, t478, t479, t482)) = some (r1, r2, r3, r4) := H
            have A7 := ab_ A70
            clear A70
            simp only [Option.some.injEq, Prod.mk.injEq] at H
            obtain ⟨rfl, rfl, rfl, rfl⟩ := H
            go_enter Try.func108, Try.ntmps108
            try go_wp2_with (first | ((with_reducible refine gate_dst (N := 1) rfl ?_); refine box_event ?hg (N := 1) ?hd (cs := #[.int .i64 a0_0, .int .i64 a0_1, .slice A0_2 l0_2.length c0_2]) (t := 62) ?hr ?_; (case hd => rfl); (case hg => rfl); (case hr => first | (go_simp; done) | (go_simp; rfl)); intro gb471 hg w8 hbox hb; have n0_ := ab_ (Kd.V_below (Kd.V_elderB (by (with_reducible repeat (first | apply Kd.V_alloc | apply Kd.V_drewN | apply Kd.V_drew)); exact HO0_2.out) gb471 (Nat.le_of_eq hg.symm)) hb); have n1_ := ab_ (ap_ (by repeat (first | (with_reducible first | exact HB.out | apply ai_ | apply ag_ | apply ah_) | exact HB.out)) hb); have n2_ := ab_ (hbox); have n3_ := ab_ ((by rw [hg]; exact (below_size (by repeat (first | (with_reducible first | exact HB.out | apply ai_ | apply ag_ | apply ah_) | exact HB.out))) : w.heap.size ≤ gb471)); have n4_ := ab_ ((by rw [hg]; exact (below_size (by repeat (first | (with_reducible first | exact HB.out | apply ai_ | apply ag_ | apply ah_) | exact HB.out))) : w.heap.size ≤ gb471)); clear HO0_2; clear HB; have HO0_2 := n0_; have HB := n1_; have BK471 := n2_; have GW471 := n3_; have GE471 := n4_; clear n0_ n1_ n2_ n3_ n4_; clear hb hbox hg) | ((with_reducible refine gate_dst (N := 2) rfl ?_); refine box_event ?hg (N := 2) ?hd (cs := #[.int .i64 0, .int .i64 0, .slice none 0 0]) (t := 62) ?hr ?_; (case hd => rfl); (case hg => rfl); (case hr => first | (go_simp; done) | (go_simp; rfl)); intro gb472 hg w9 hbox hb; have n0_ := ab_ (Kd.V_below (Kd.V_elderB (by (with_reducible repeat (first | apply Kd.V_alloc | apply Kd.V_drewN | apply Kd.V_drew)); exact HO0_2.out) gb472 (Nat.le_of_eq hg.symm)) hb); have n1_ := ab_ (blk_below (g := gb471) (o := .cells #[.int .i64 a0_0, .int .i64 a0_1, .slice A0_2 l0_2.length c0_2] 62 (0, 0)) (by (with_reducible repeat (first | refine ac_ ?_ _ | refine ae_ ?_ | refine ad_ ?_ _)); exact BK471.out) hb); have n2_ := ab_ (ap_ (by repeat (first | (with_reducible first | exact HB.out | apply ai_ | apply ag_ | apply ah_ | refine af_ ?_ GE471.out) | exact HB.out)) hb); have n3_ := ab_ (hbox); have n4_ := ab_ ((by rw [hg]; exact (below_size (by repeat (first | (with_reducible first | exact HB.out | apply ai_ | apply ag_ | apply ah_ | refine af_ ?_ GE471.out) | exact HB.out))) : w.heap.size ≤ gb472)); have n5_ := ab_ ((by rw [hg]; exact (below_size (by repeat (first | (with_reducible first | exact HB.out | apply ai_ | apply ag_ | apply ah_ | refine af_ ?_ GE471.out) | exact HB.out))) : w.heap.size ≤ gb472)); have n6_ := ab_ ((by rw [hg]; exact ak_ (blk_lt (g := gb471) (o := .cells #[.int .i64 a0_0, .int .i64 a0_1, .slice A0_2 l0_2.length c0_2] 62 (0, 0)) (by (with_reducible repeat (first | refine ac_ ?_ _ | refine ae_ ?_ | refine ad_ ?_ _)); exact BK471.out)) : gb471 ≠ gb472)); have n7_ := ab_ ((by rw [hg]; exact Nat.ne_of_gt (blk_lt (g := gb471) (o := .cells #[.int .i64 a0_0, .int .i64 a0_1, .slice A0_2 l0_2.length c0_2] 62 (0, 0)) (by (with_reducible repeat (first | refine ac_ ?_ _ | refine ae_ ?_ | refine ad_ ?_ _)); exact BK471.out)) : gb472 ≠ gb471)); clear HO0_2; clear BK471; clear HB; have HO0_2 := n0_; have BK471 := n1_; have HB := n2_; have BK472 := n3_; have GW472 := n4_; have GE472 := n5_; have NB471_472 := n6_; have NB472_471 := n7_; clear n0_ n1_ n2_ n3_ n4_ n5_ n6_ n7_; clear hb hbox hg; have hnb10 := NB471_472.out; have hnc10 := NB472_471.out; have hcz11_0 : w9.cell? ⟨gb471, 0, none⟩ = some (.int .i64 a0_0) := (an_ BK471.out 0).trans rfl; have hcz11_1 : w9.cell? ⟨gb471, 1, none⟩ = some (.int .i64 a0_1) := (an_ BK471.out 1).trans rfl; have hcz11_2 : w9.cell? ⟨gb471, 2, none⟩ = some (.slice A0_2 l0_2.length c0_2) := (an_ BK471.out 2).trans rfl; have hfz11_0 := am_ BK471.out 0; have hfz11_1 := am_ BK471.out 1; have hfz11_2 := am_ BK471.out 2; have p473 : 0 ≤ (0 : Int) := (by omega); have q473 : 0 < (l0_2.length : Int) := of_decide_eq_true (by first | (with_reducible assumption) | assumption); obtain ⟨ad473, A473_2, c473_2, e473, hx473_0, hx473_1, hx473_2, hl473_2, hi473_2⟩ := at_T62 (Kd.V_reads' HO0_2.out).2.2 0 p473 q473; cases e473; obtain ⟨ce473, hce473, hMe473, hcc473⟩ := Kd.V_get HO0_2.out z62 0 p473 (by first | exact q473 | exact of_decide_eq_true (by first | (with_reducible assumption) | assumption) | (have e_ := (Kd.V_reads' HO0_2.out).1; omega)); obtain ⟨ua473_2, uc473_2, rfl, ul473_2, ge473_2⟩ := k62_openF hMe473; have hv473_2 := hcc473 2 _ rfl; rw [add_field _ _ 2 (by omega)] at hv473_2; replace hv473_2 := Option.some.inj (hv473_2.symm.trans hx473_2); injection hv473_2 with hva_ hvn_ hvc_; rw [hva_] at ge473_2; rw [hvc_] at ul473_2; have HL473_2 := ab_ (show Kd.V k62 62 _ w.heap.size _ _ ((rd_T62 l0_2 0).f2) from Kd.V_mk ul473_2 ge473_2); clear hva_ hvn_ hvc_ ge473_2 ul473_2; clear hcc473 hce473; have qi473 : (0 < l0_2.length) = True := eq_true (by omega); (try rw [show ((0 : Int)).toNat = 0 from rfl] at hx473_0); (try rw [show 0 * 3 = 0 from rfl] at hx473_0); (try rw [Addr.add_zero'] at hx473_0); (try rw [show ((0 : Int)).toNat = 0 from rfl] at hx473_1); (try rw [show 0 * 3 = 0 from rfl] at hx473_1); (try rw [Addr.add_zero'] at hx473_1); (try rw [show ((0 : Int)).toNat = 0 from rfl] at hx473_2); (try rw [show 0 * 3 = 0 from rfl] at hx473_2); (try rw [Addr.add_zero'] at hx473_2); have HR473_2 := ab_ hi473_2; have HC473_2 := ab_ hl473_2; clear hi473_2 hl473_2; replace p473 := eq_true p473; replace q473 := eq_true q473))
            have n0_ := ab_ (Kd.V_drew HO0_2.out)
            have n1_ := ab_ (Kd.V_drew HL473_2.out)
            have n2_ := ab_ (ae_ BK471.out)
            have n3_ := ab_ (ae_ BK472.out)
            have n4_ := ab_ (Kd.C_drew HR473_2.out)
            have n5_ := ab_ (ah_ HB.out)
            clear HO0_2
            clear HL473_2
            clear BK471
            clear BK472
            clear HR473_2
            clear HB
            have HO0_2 := n0_
            have HL473_2 := n1_
            have BK471 := n2_
            have BK472 := n3_
            have HR473_2 := n4_
            have HB := n5_
            clear n0_ n1_ n2_ n3_ n4_ n5_
            have p474 : 0 ≤ (0 : Int) := (by omega)
            have q474 : 0 < (l0_2.length : Int) := of_decide_eq_true (by first | (with_reducible assumption) | assumption)
            obtain ⟨ad474, A474_2, c474_2, e474, hx474_0, hx474_1, hx474_2, hl474_2, hi474_2⟩ := at_T62 (Kd.V_reads' HO0_2.out).2.2 0 p474 q474
            obtain rfl : ad473 = ad474 := (by injection e474)
            obtain ⟨ce474, hce474, hMe474, hcc474⟩ := Kd.V_get HO0_2.out z62 0 p474 (by first | exact q474 | exact of_decide_eq_true (by first | (with_reducible assumption) | assumption) | (have e_ := (Kd.V_reads' HO0_2.out).1; omega))
            obtain ⟨ua474_2, uc474_2, rfl, ul474_2, ge474_2⟩ := k62_openF hMe474
            have hv474_2 := hcc474 2 _ rfl
            rw [add_field _ _ 2 (by omega)] at hv474_2
            replace hv474_2 := Option.some.inj (hv474_2.symm.trans hx474_2)
            injection hv474_2 with hva_ hvn_ hvc_
            rw [hva_] at ge474_2
            rw [hvc_] at ul474_2
            have HL474_2 := ab_ (show Kd.V k62 62 _ w.heap.size _ _ ((rd_T62 l0_2 0).f2) from Kd.V_mk ul474_2 ge474_2)
            clear hva_ hvn_ hvc_ ge474_2 ul474_2
            clear hcc474 hce474
            have qi474 : (0 < l0_2.length) = True := eq_true (by omega)
            (try rw [show ((0 : Int)).toNat = 0 from rfl] at hx474_0)
            (try rw [show 0 * 3 = 0 from rfl] at hx474_0)
            (try rw [Addr.add_zero'] at hx474_0)
            (try rw [show ((0 : Int)).toNat = 0 from rfl] at hx474_1)
            (try rw [show 0 * 3 = 0 from rfl] at hx474_1)
            (try rw [Addr.add_zero'] at hx474_1)
            (try rw [show ((0 : Int)).toNat = 0 from rfl] at hx474_2)
            (try rw [show 0 * 3 = 0 from rfl] at hx474_2)
            (try rw [Addr.add_zero'] at hx474_2)
            have HR474_2 := ab_ hi474_2
            have HC474_2 := ab_ hl474_2
            clear hi474_2 hl474_2
            replace p474 := eq_true p474
            replace q474 := eq_true q474
            have p475 : 0 ≤ (0 : Int) := (by omega)
            have q475 : 0 < (((rd_T62 l0_2 0).f2).length : Int) := of_decide_eq_true (by first | (with_reducible assumption) | assumption)
            obtain ⟨ad475, A475_2, c475_2, e475, hx475_0, hx475_1, hx475_2, hl475_2, hi475_2⟩ := at_T62 (by repeat (first | (with_reducible exact HR474_2.out) | (with_reducible refine Kd.C_alloc ?_ _) | (with_reducible refine Kd.C_drewN ?_ _) | (with_reducible refine Kd.C_drew ?_) | exact HR474_2.out)) 0 p475 q475
            cases e475
            obtain ⟨ce475, hce475, hMe475, hcc475⟩ := Kd.V_get HL474_2.out z62 0 p475 (by first | exact q475 | exact of_decide_eq_true (by first | (with_reducible assumption) | assumption) | (have e_ := (Kd.V_reads' HL474_2.out).1; omega))
            obtain ⟨ua475_2, uc475_2, rfl, ul475_2, ge475_2⟩ := k62_openF hMe475
            have hv475_2 := hcc475 2 _ rfl
            rw [add_field _ _ 2 (by omega)] at hv475_2
            replace hv475_2 := Option.some.inj (hv475_2.symm.trans hx475_2)
            injection hv475_2 with hva_ hvn_ hvc_
            rw [hva_] at ge475_2
            rw [hvc_] at ul475_2
            have HL475_2 := ab_ (show Kd.V k62 62 _ w.heap.size _ _ ((rd_T62 ((rd_T62 l0_2 0).f2) 0).f2) from Kd.V_mk ul475_2 ge475_2)
            clear hva_ hvn_ hvc_ ge475_2 ul475_2
            clear hcc475 hce475
            have qi475 : (0 < ((rd_T62 l0_2 0).f2).length) = True := eq_true (by omega)
            (try rw [show ((0 : Int)).toNat = 0 from rfl] at hx475_0)
            (try rw [show 0 * 3 = 0 from rfl] at hx475_0)
            (try rw [Addr.add_zero'] at hx475_0)
            (try rw [show ((0 : Int)).toNat = 0 from rfl] at hx475_1)
            (try rw [show 0 * 3 = 0 from rfl] at hx475_1)
            (try rw [Addr.add_zero'] at hx475_1)
            (try rw [show ((0 : Int)).toNat = 0 from rfl] at hx475_2)
            (try rw [show 0 * 3 = 0 from rfl] at hx475_2)
            (try rw [Addr.add_zero'] at hx475_2)
            have HR475_2 := ab_ hi475_2
            have HC475_2 := ab_ hl475_2
            clear hi475_2 hl475_2
            replace p475 := eq_true p475
            replace q475 := eq_true q475
            have p476 : 0 ≤ (1 : Int) := (by omega)
            have q476 : 1 < (l0_2.length : Int) := of_decide_eq_true (by first | (with_reducible assumption) | assumption)
            obtain ⟨ad476, A476_2, c476_2, e476, hx476_0, hx476_1, hx476_2, hl476_2, hi476_2⟩ := at_T62 (Kd.V_reads' HO0_2.out).2.2 1 p476 q476
            obtain rfl : ad473 = ad476 := (by injection e476)
            obtain ⟨ce476, hce476, hMe476, hcc476⟩ := Kd.V_get HO0_2.out z62 1 p476 (by first | exact q476 | exact of_decide_eq_true (by first | (with_reducible assumption) | assumption) | (have e_ := (Kd.V_reads' HO0_2.out).1; omega))
            obtain ⟨ua476_2, uc476_2, rfl, ul476_2, ge476_2⟩ := k62_openF hMe476
            have hv476_2 := hcc476 2 _ rfl
            rw [add_field _ _ 2 (by omega)] at hv476_2
            replace hv476_2 := Option.some.inj (hv476_2.symm.trans hx476_2)
            injection hv476_2 with hva_ hvn_ hvc_
            rw [hva_] at ge476_2
            rw [hvc_] at ul476_2
            have HL476_2 := ab_ (show Kd.V k62 62 _ w.heap.size _ _ ((rd_T62 l0_2 1).f2) from Kd.V_mk ul476_2 ge476_2)
            clear hva_ hvn_ hvc_ ge476_2 ul476_2
            clear hcc476 hce476
            (try simp only [show (1 : Int).toNat = 1 from rfl, Nat.reduceMul, Nat.reduceEqDiff, Go.Addr.add, ↓reduceIte] at hx476_0)
            (try simp only [show (1 : Int).toNat = 1 from rfl, Nat.reduceMul, Nat.reduceEqDiff, Go.Addr.add, ↓reduceIte] at hx476_1)
            (try simp only [show (1 : Int).toNat = 1 from rfl, Nat.reduceMul, Nat.reduceEqDiff, Go.Addr.add, ↓reduceIte] at hx476_2)
            have qi476 : (1 < l0_2.length) = True := eq_true (by omega)
            (try rw [show ((1 : Int)).toNat = 1 from rfl] at hx476_0)
            (try rw [show 1 * 3 = 3 from rfl] at hx476_0)
            (try rw [show ((1 : Int)).toNat = 1 from rfl] at hx476_1)
            (try rw [show 1 * 3 = 3 from rfl] at hx476_1)
            (try rw [show ((1 : Int)).toNat = 1 from rfl] at hx476_2)
            (try rw [show 1 * 3 = 3 from rfl] at hx476_2)
            have HR476_2 := ab_ hi476_2
            have HC476_2 := ab_ hl476_2
            clear hi476_2 hl476_2
            replace p476 := eq_true p476
            replace q476 := eq_true q476
            refine start_ (n := 16) (S := fun w' => w'.cell? ⟨gb471, 0, none⟩ = some (.int .i64 a0_0) ∧ w'.cell? ⟨gb471, 1, none⟩ = some (.int .i64 a0_1) ∧ w'.cell? ⟨gb471, 2, none⟩ = some (.slice (some ad473) l0_2.length c0_2) ∧ w'.cell? ad473 = some (.int .i64 ((rd_T62 l0_2 0).f0)) ∧ w'.cell? ⟨ad473.block, ad473.off + 1, none⟩ = some (.int .i64 ((rd_T62 l0_2 0).f1)) ∧ w'.cell? ⟨ad473.block, ad473.off + 2, none⟩ = some (.slice (some ad475) ((rd_T62 l0_2 0).f2).length c474_2) ∧ w'.cell? ad475 = some (.int .i64 ((rd_T62 ((rd_T62 l0_2 0).f2) 0).f0)) ∧ w'.cell? ⟨ad475.block, ad475.off + 1, none⟩ = some (.int .i64 ((rd_T62 ((rd_T62 l0_2 0).f2) 0).f1)) ∧ w'.cell? ⟨ad475.block, ad475.off + 2, none⟩ = some (.slice A475_2 ((rd_T62 ((rd_T62 l0_2 0).f2) 0).f2).length c475_2) ∧ w'.cell? ⟨ad473.block, ad473.off + 3, none⟩ = some (.int .i64 ((rd_T62 l0_2 1).f0)) ∧ w'.cell? ⟨ad473.block, ad473.off + 3 + 1, none⟩ = some (.int .i64 ((rd_T62 l0_2 1).f1)) ∧ w'.cell? ⟨ad473.block, ad473.off + 3 + 2, none⟩ = some (.slice A476_2 ((rd_T62 l0_2 1).f2).length c476_2)) (ds := []) #[false, false, false, false, false, false, false, false, false, false, false, false, false, false, false, false] (by kernel_rfl) rfl rfl ⟨(an_ BK471.out 0).trans rfl, (an_ BK471.out 1).trans rfl, (an_ BK471.out 2).trans rfl, hx474_0, hx474_1, hx474_2, hx475_0, hx475_1, hx475_2, hx476_0, hx476_1, hx476_2⟩ (fun hHeld => ?_); refine with_tabW spec_l4Contract.tab4 spec_l4Contract.bits4 (fun HT_ HW_ => ?_)
            generalize w9.drew = w12 at HO0_2 HL473_2 BK471 BK472 HR473_2 HB HL474_2 HL475_2 HL476_2 HR474_2 HR475_2 HR476_2 hx474_0 hx474_1 hx474_2 hx475_0 hx475_1 hx475_2 hx476_0 hx476_1 hx476_2 hHeld ⊢
            refine pure_ (i := 0) (N := some 16) (v := ?_) (a' := ?_) #[true, false, false, false, false, false, false, false, false, false, false, false, false, false, false, false] rfl rfl (any_of HT_.out (by kernel_rfl)) (fun _ _ _ h => h) (Or.inl ⟨by rfl, ?_⟩) ?_ ?_
            rotate_left
            · intro w'
              go_simp
              with_reducible rfl
            rotate_left
            · simp only [Act.put, List.setIfInBounds_toArray, List.set_cons_zero, List.set_cons_succ, i64_w, i32_w]
              rfl
            refine pure_ (i := 7) (N := some 23) (v := ?_) (a' := ?_) #[true, false, false, false, false, false, false, true, false, false, false, false, false, false, false, false] rfl rfl (any_of HT_.out (by kernel_rfl)) (fun _ _ _ h => h) (Or.inl ⟨by rfl, ?_⟩) ?_ ?_
            rotate_left
            · intro w'
              go_simp
              with_reducible rfl
            rotate_left
            · simp only [Act.put, List.setIfInBounds_toArray, List.set_cons_zero, List.set_cons_succ, i64_w, i32_w]
              rfl
            refine take_ (i := 1) (N := some 17) (v := ?_) (a' := ?_) #[true, true, false, false, false, false, false, true, false, false, false, false, false, false, false, false] rfl rfl (take_ofW HT_.out HW_.out (by kernel_rfl)) (fun _ _ _ h => h) (Or.inl ⟨by rfl, ?_⟩) hHeld ?_ ?_
            rotate_left
            · rintro w' ⟨s0, s1, s2, s3, s4, s5, s6, s7, s8, s9, s10, s11⟩
              go_simp
              with_reducible rfl
            rotate_left
            · simp only [Act.put, List.setIfInBounds_toArray, List.set_cons_zero, List.set_cons_succ, i64_w, i32_w]
              rfl
            refine pure_ (i := 2) (N := some 18) (v := ?_) (a' := ?_) #[true, true, true, false, false, false, false, true, false, false, false, false, false, false, false, false] rfl rfl (any_of HT_.out (by kernel_rfl)) (fun _ _ _ h => h) (Or.inl ⟨by rfl, ?_⟩) ?_ ?_
            rotate_left
            · intro w'
              go_simp
              with_reducible rfl
            rotate_left
            · simp only [Act.put, List.setIfInBounds_toArray, List.set_cons_zero, List.set_cons_succ, i64_w, i32_w]
              rfl
            refine pure_ (i := 3) (N := some 19) (v := ?_) (a' := ?_) #[true, true, true, true, false, false, false, true, false, false, false, false, false, false, false, false] rfl rfl (any_of HT_.out (by kernel_rfl)) (fun _ _ _ h => h) (Or.inl ⟨by rfl, ?_⟩) ?_ ?_
            rotate_left
            · intro w'
              go_simp
              with_reducible rfl
            rotate_left
            · simp only [Act.put, List.setIfInBounds_toArray, List.set_cons_zero, List.set_cons_succ, i64_w, i32_w]
              rfl
            refine take_ (i := 4) (N := some 20) (v := ?_) (a' := ?_) #[true, true, true, true, true, false, false, true, false, false, false, false, false, false, false, false] rfl rfl (take_ofW HT_.out HW_.out (by kernel_rfl)) (fun _ _ _ h => h) (Or.inl ⟨by rfl, ?_⟩) hHeld ?_ ?_
            rotate_left
            · rintro w' ⟨s0, s1, s2, s3, s4, s5, s6, s7, s8, s9, s10, s11⟩
              go_simp
              with_reducible rfl
            rotate_left
            · simp only [Act.put, List.setIfInBounds_toArray, List.set_cons_zero, List.set_cons_succ, i64_w, i32_w]
              rfl
            refine pure_ (i := 5) (N := some 21) (v := ?_) (a' := ?_) #[true, true, true, true, true, true, false, true, false, false, false, false, false, false, false, false] rfl rfl (any_of HT_.out (by kernel_rfl)) (fun _ _ _ h => h) (Or.inl ⟨by rfl, ?_⟩) ?_ ?_
            rotate_left
            · intro w'
              go_simp
              with_reducible rfl
            rotate_left
            · simp only [Act.put, List.setIfInBounds_toArray, List.set_cons_zero, List.set_cons_succ, i64_w, i32_w]
              rfl
            refine take_ (i := 6) (N := some 22) (v := ?_) (a' := ?_) #[true, true, true, true, true, true, true, true, false, false, false, false, false, false, false, false] rfl rfl (take_ofW HT_.out HW_.out (by kernel_rfl)) (fun _ _ _ h => h) (Or.inl ⟨by rfl, ?_⟩) hHeld ?_ ?_
            rotate_left
            · rintro w' ⟨s0, s1, s2, s3, s4, s5, s6, s7, s8, s9, s10, s11⟩
              go_simp
              with_reducible rfl
            rotate_left
            · simp only [Act.put, List.setIfInBounds_toArray, List.set_cons_zero, List.set_cons_succ, i64_w, i32_w]
              rfl
            refine take_ (i := 8) (N := some 24) (v := ?_) (a' := ?_) #[true, true, true, true, true, true, true, true, true, false, false, false, false, false, false, false] rfl rfl (take_ofW HT_.out HW_.out (by kernel_rfl)) (fun _ _ _ h => h) (Or.inl ⟨by rfl, ?_⟩) hHeld ?_ ?_
            rotate_left
            · rintro w' ⟨s0, s1, s2, s3, s4, s5, s6, s7, s8, s9, s10, s11⟩
              go_simp
              with_reducible rfl
            rotate_left
            · simp only [Act.put, List.setIfInBounds_toArray, List.set_cons_zero, List.set_cons_succ, i64_w, i32_w]
              rfl
            refine pure_ (i := 9) (N := some 25) (v := ?_) (a' := ?_) #[true, true, true, true, true, true, true, true, true, true, false, false, false, false, false, false] rfl rfl (any_of HT_.out (by kernel_rfl)) (fun _ _ _ h => h) (Or.inl ⟨by rfl, ?_⟩) ?_ ?_
            rotate_left
            · intro w'
              go_simp
              with_reducible rfl
            rotate_left
            · simp only [Act.put, List.setIfInBounds_toArray, List.set_cons_zero, List.set_cons_succ, i64_w, i32_w]
              rfl
            refine take_ (i := 10) (N := some 26) (v := ?_) (a' := ?_) #[true, true, true, true, true, true, true, true, true, true, true, false, false, false, false, false] rfl rfl (take_ofW HT_.out HW_.out (by kernel_rfl)) (fun _ _ _ h => h) (Or.inl ⟨by rfl, ?_⟩) hHeld ?_ ?_
            rotate_left
            · rintro w' ⟨s0, s1, s2, s3, s4, s5, s6, s7, s8, s9, s10, s11⟩
              go_simp
              with_reducible rfl
            rotate_left
            · simp only [Act.put, List.setIfInBounds_toArray, List.set_cons_zero, List.set_cons_succ, i64_w, i32_w]
              rfl
            refine one_ (i := 11) (N := some 27) #[true, true, true, true, true, true, true, true, true, true, true, true, false, false, false, false] rfl rfl (one_of HT_.out (by kernel_rfl)) (by decide) (fun K hK => ?_)
            refine goes_ Try.func60 (by kernel_rfl) rfl #[.agg #[.int .i64 ((rd_T62 ((rd_T62 l0_2 0).f2) 0).f0), .int .i64 ((rd_T62 ((rd_T62 l0_2 0).f2) 0).f1), .slice A475_2 ((rd_T62 ((rd_T62 l0_2 0).f2) 0).f2).length c475_2], .int .i64 0, .agg #[.int .i64 ((rd_T62 l0_2 1).f0), .int .i64 ((rd_T62 l0_2 1).f1), .slice A476_2 ((rd_T62 l0_2 1).f2).length c476_2]] (by rfl) rfl rfl (by (try simp only [List.map_toArray, List.map_cons, List.map_nil]); first | done | rfl | (simp only [List.length_drop, List.length_take]; rfl)) ?_
            with_reducible refine (spec_l3Put.calls k ((rd_T62 ((rd_T62 l0_2 0).f2) 0).f0) ((rd_T62 ((rd_T62 l0_2 0).f2) 0).f1) (fun k_ => (((P0_2_ k_ ∨ w.heap.size ≤ k_) ∧ k_ ≠ gb471) ∧ k_ ≠ gb472)) _ _ ((rd_T62 ((rd_T62 l0_2 0).f2) 0).f2) 0 ((rd_T62 l0_2 1).f0) ((rd_T62 l0_2 1).f1) _ _ ((rd_T62 l0_2 1).f2) t477 t478 t479 t482 _ ?side1 ?side2 ?side3 A7.out).mono ?_
            (case side1 => exact HL475_2.out)
            (case side2 => repeat (first | exact (by repeat (first | (with_reducible exact HR476_2.out) | (with_reducible refine Kd.C_alloc ?_ _) | (with_reducible refine Kd.C_drewN ?_ _) | (with_reducible refine Kd.C_drew ?_) | exact HR476_2.out)) | (with_reducible refine Kd.C_alloc ?_ _) | (with_reducible refine Kd.C_drewN ?_ _) | (with_reducible refine Kd.C_drew ?_)))
            (case side3 => exact HC476_2.out)
            rintro e w13 ⟨v480, rfl, ho0, hb⟩
            have HS3_ := (hb.cell (aa_ _ _ (hHeld.2.2.2.1))).trans (hHeld.2.2.2.1)
            have HS4_ := (hb.cell (aa_ _ _ (hHeld.2.2.2.2.1))).trans (hHeld.2.2.2.2.1)
            have HS5_ := (hb.cell (aa_ _ _ (hHeld.2.2.2.2.2.1))).trans (hHeld.2.2.2.2.2.1)
            have HS6_ := (hb.cell (aa_ _ _ (hHeld.2.2.2.2.2.2.1))).trans (hHeld.2.2.2.2.2.2.1)
            have HS7_ := (hb.cell (aa_ _ _ (hHeld.2.2.2.2.2.2.2.1))).trans (hHeld.2.2.2.2.2.2.2.1)
            have HS8_ := (hb.cell (aa_ _ _ (hHeld.2.2.2.2.2.2.2.2.1))).trans (hHeld.2.2.2.2.2.2.2.2.1)
            have HS9_ := (hb.cell (aa_ _ _ (hHeld.2.2.2.2.2.2.2.2.2.1))).trans (hHeld.2.2.2.2.2.2.2.2.2.1)
            have HS10_ := (hb.cell (aa_ _ _ (hHeld.2.2.2.2.2.2.2.2.2.2.1))).trans (hHeld.2.2.2.2.2.2.2.2.2.2.1)
            have HS11_ := (hb.cell (aa_ _ _ (hHeld.2.2.2.2.2.2.2.2.2.2.2))).trans (hHeld.2.2.2.2.2.2.2.2.2.2.2)
            refine ⟨_, rfl, ?_⟩
            have n0_ := ab_ (Kd.V_below (by (with_reducible repeat (first | apply Kd.V_alloc | apply Kd.V_drewN | apply Kd.V_drew)); exact HO0_2.out) hb)
            have n1_ := ab_ (Kd.V_below (by (with_reducible repeat (first | apply Kd.V_alloc | apply Kd.V_drewN | apply Kd.V_drew)); exact HL473_2.out) hb)
            have n2_ := ab_ (Kd.V_below (by (with_reducible repeat (first | apply Kd.V_alloc | apply Kd.V_drewN | apply Kd.V_drew)); exact HL474_2.out) hb)
            have n3_ := ab_ (Kd.V_below (by (with_reducible repeat (first | apply Kd.V_alloc | apply Kd.V_drewN | apply Kd.V_drew)); exact HL475_2.out) hb)
            have n4_ := ab_ (Kd.V_below (by (with_reducible repeat (first | apply Kd.V_alloc | apply Kd.V_drewN | apply Kd.V_drew)); exact HL476_2.out) hb)
            have n5_ := ab_ (Kd.V_lower (Kd.V_mono (ok' := fun k_ => (P0_2_ k_ ∨ w.heap.size ≤ k_) ∧ k_ ≠ gb471 ∧ k_ ≠ gb472) ho0 (fun k_ hk_ => ⟨Or.elim hk_ (fun hs_ => hs_.1.1) (fun hn_ => (.inr (Nat.le_trans (below_size (by repeat (first | (with_reducible first | exact HB.out | apply ai_ | apply ag_ | apply ah_ | refine af_ ?_ GE471.out | refine af_ ?_ GE472.out) | exact HB.out))) hn_))), Or.elim hk_ (fun hs_ => hs_.1.2) (fun hn_ => (Kd.freshB (g := gb471) (o := .cells #[.int .i64 a0_0, .int .i64 a0_1, .slice (some ad473) l0_2.length c0_2] 62 (0, 0)) (by (with_reducible repeat (first | refine ac_ ?_ _ | refine ae_ ?_ | refine ad_ ?_ _)); exact BK471.out) k_ hn_)), Or.elim hk_ (fun hs_ => hs_.2) (fun hn_ => (Kd.freshB (g := gb472) (o := .cells #[.int .i64 0, .int .i64 0, .slice none 0 0] 62 (0, 0)) (by (with_reducible repeat (first | refine ac_ ?_ _ | refine ae_ ?_ | refine ad_ ?_ _)); exact BK472.out) k_ hn_))⟩)) (below_size (by repeat (first | (with_reducible first | exact HB.out | apply ai_ | apply ag_ | apply ah_ | refine af_ ?_ GE471.out | refine af_ ?_ GE472.out) | exact HB.out))))
            have n6_ := ab_ (blk_below (g := gb471) (o := .cells #[.int .i64 a0_0, .int .i64 a0_1, .slice (some ad473) l0_2.length c0_2] 62 (0, 0)) (by (with_reducible repeat (first | refine ac_ ?_ _ | refine ae_ ?_ | refine ad_ ?_ _)); exact BK471.out) hb)
            have n7_ := ab_ (blk_below (g := gb472) (o := .cells #[.int .i64 0, .int .i64 0, .slice none 0 0] 62 (0, 0)) (by (with_reducible repeat (first | refine ac_ ?_ _ | refine ae_ ?_ | refine ad_ ?_ _)); exact BK472.out) hb)
            have n8_ := ab_ (Kd.C_below (by repeat (first | (with_reducible exact HR473_2.out) | (with_reducible refine Kd.C_alloc ?_ _) | (with_reducible refine Kd.C_drewN ?_ _) | (with_reducible refine Kd.C_drew ?_) | exact HR473_2.out)) hb)
            have n9_ := ab_ (Kd.C_below (by repeat (first | (with_reducible exact HR474_2.out) | (with_reducible refine Kd.C_alloc ?_ _) | (with_reducible refine Kd.C_drewN ?_ _) | (with_reducible refine Kd.C_drew ?_) | exact HR474_2.out)) hb)
            have n10_ := ab_ (Kd.C_below (by repeat (first | (with_reducible exact HR475_2.out) | (with_reducible refine Kd.C_alloc ?_ _) | (with_reducible refine Kd.C_drewN ?_ _) | (with_reducible refine Kd.C_drew ?_) | exact HR475_2.out)) hb)
            have n11_ := ab_ (Kd.C_below (by repeat (first | (with_reducible exact HR476_2.out) | (with_reducible refine Kd.C_alloc ?_ _) | (with_reducible refine Kd.C_drewN ?_ _) | (with_reducible refine Kd.C_drew ?_) | exact HR476_2.out)) hb)
            have n12_ := ab_ (ap_ (by repeat (first | (with_reducible first | exact HB.out | apply ai_ | apply ag_ | apply ah_ | refine af_ ?_ GE471.out | refine af_ ?_ GE472.out) | exact HB.out)) hb)
            clear HO0_2
            clear HL473_2
            clear HL474_2
            clear HL475_2
            clear HL476_2
            clear BK471
            clear BK472
            clear HR473_2
            clear HR474_2
            clear HR475_2
            clear HR476_2
            clear HB
            have HO0_2 := n0_
            have HL473_2 := n1_
            have HL474_2 := n2_
            have HL475_2 := n3_
            have HL476_2 := n4_
            have HO481 := n5_
            have BK471 := n6_
            have BK472 := n7_
            have HR473_2 := n8_
            have HR474_2 := n9_
            have HR475_2 := n10_
            have HR476_2 := n11_
            have HB := n12_
            clear n0_ n1_ n2_ n3_ n4_ n5_ n6_ n7_ n8_ n9_ n10_ n11_ n12_
            (try clear hb)
            (try clear hb2)
            (try clear hk)
            (try clear hi)
            (try clear ho0)
            obtain ⟨Ao16, co16, eo16⟩ := Kd.V_slice HO481.out
            (first | subst eo16 | (injection eo16 with f1_ f2_ f3_; have f4_ := f1_.symm; have f5_ := f3_.symm; clear f1_ f2_ f3_; subst f4_; subst f5_))
            refine hK.out _ _ ⟨(an_ BK471.out 0).trans rfl, (an_ BK471.out 1).trans rfl, (an_ BK471.out 2).trans rfl, HS3_, HS4_, HS5_, HS6_, HS7_, HS8_, HS9_, HS10_, HS11_⟩ (fun hHeld => ?_)
            clear hK K
            refine norm_ (a' := ?_) ?_ ?_
            rotate_left
            · show Act.put _ (some 27) _ = _
              simp only [Act.put, List.setIfInBounds_toArray, List.set_cons_zero, List.set_cons_succ, i64_w, i32_w]
              rfl
            refine pure_ (i := 12) (N := some 28) (v := ?_) (a' := ?_) #[true, true, true, true, true, true, true, true, true, true, true, true, true, false, false, false] rfl rfl (any_of HT_.out (by kernel_rfl)) (fun _ _ _ h => h) (Or.inl ⟨by rfl, ?_⟩) ?_ ?_
            rotate_left
            · intro w'
              go_simp
              with_reducible rfl
            rotate_left
            · simp only [Act.put, List.setIfInBounds_toArray, List.set_cons_zero, List.set_cons_succ, i64_w, i32_w]
              rfl
            refine pure_ (i := 13) (N := some 29) (v := ?_) (a' := ?_) #[true, true, true, true, true, true, true, true, true, true, true, true, true, true, false, false] rfl rfl (any_of HT_.out (by kernel_rfl)) (fun _ _ _ h => h) (Or.inl ⟨by rfl, ?_⟩) ?_ ?_
            rotate_left
            · intro w'
              go_simp
              with_reducible rfl
            rotate_left
            · simp only [Act.put, List.setIfInBounds_toArray, List.set_cons_zero, List.set_cons_succ, i64_w, i32_w]
              rfl
            refine one_ (i := 14) (N := none) #[true, true, true, true, true, true, true, true, true, true, true, true, true, true, true, false] rfl rfl (one_of HT_.out (by kernel_rfl)) (by decide) (fun K hK => ?_)
            have hs14 : w13.cell? ⟨gb472, 0, none⟩ = some (.int .i64 0) := (an_ BK472.out 0).trans rfl
            have hfs14 := am_ BK472.out 0
            have hns14_0 := NB471_472.out
            have hms14_0 := NB472_471.out
            have hs15 : w13.cell? ⟨gb472, 1, none⟩ = some (.int .i64 0) := (an_ BK472.out 1).trans rfl
            have hfs15 := am_ BK472.out 1
            have hns15_0 := NB471_472.out
            have hms15_0 := NB472_471.out
            have hs17 : w13.cell? ⟨gb472, 2, none⟩ = some (.slice none 0 0) := (an_ BK472.out 2).trans rfl
            have hfs17 := am_ BK472.out 2
            have hns17_0 := NB471_472.out
            have hms17_0 := NB472_471.out
            refine skip_ (w1 := ?_) (by rfl) rfl ?_ ?_
            rotate_left
            · go_simp
              rfl
            refine hK.out _ _ ⟨((cell_far (p := ⟨gb472, _, none⟩) NB471_472.out _).trans (((cell_far (p := ⟨gb472, _, none⟩) NB471_472.out _).trans (((cell_far (p := ⟨gb472, _, none⟩) NB471_472.out _).trans (hHeld.1)))))), ((cell_far (p := ⟨gb472, _, none⟩) NB471_472.out _).trans (((cell_far (p := ⟨gb472, _, none⟩) NB471_472.out _).trans (((cell_far (p := ⟨gb472, _, none⟩) NB471_472.out _).trans (hHeld.2.1)))))), ((cell_far (p := ⟨gb472, _, none⟩) NB471_472.out _).trans (((cell_far (p := ⟨gb472, _, none⟩) NB471_472.out _).trans (((cell_far (p := ⟨gb472, _, none⟩) NB471_472.out _).trans (hHeld.2.2.1)))))), ((cell_far (p := ⟨gb472, _, none⟩) (by first | exact Kd.own_blk (V62_away HO0_2.out HN62 (fun _ hk => hk.2)) | (rw [al_]; exact Kd.own_blk (V62_away HO0_2.out HN62 (fun _ hk => hk.2))) | (show (Addr.add _ _).block ≠ _; rw [al_]; exact Kd.own_blk (V62_away HO0_2.out HN62 (fun _ hk => hk.2))) | (dsimp only; exact Kd.own_blk (V62_away HO0_2.out HN62 (fun _ hk => hk.2)))) _).trans (((cell_far (p := ⟨gb472, _, none⟩) (by first | exact Kd.own_blk (V62_away HO0_2.out HN62 (fun _ hk => hk.2)) | (rw [al_]; exact Kd.own_blk (V62_away HO0_2.out HN62 (fun _ hk => hk.2))) | (show (Addr.add _ _).block ≠ _; rw [al_]; exact Kd.own_blk (V62_away HO0_2.out HN62 (fun _ hk => hk.2))) | (dsimp only; exact Kd.own_blk (V62_away HO0_2.out HN62 (fun _ hk => hk.2)))) _).trans (((cell_far (p := ⟨gb472, _, none⟩) (by first | exact Kd.own_blk (V62_away HO0_2.out HN62 (fun _ hk => hk.2)) | (rw [al_]; exact Kd.own_blk (V62_away HO0_2.out HN62 (fun _ hk => hk.2))) | (show (Addr.add _ _).block ≠ _; rw [al_]; exact Kd.own_blk (V62_away HO0_2.out HN62 (fun _ hk => hk.2))) | (dsimp only; exact Kd.own_blk (V62_away HO0_2.out HN62 (fun _ hk => hk.2)))) _).trans (hHeld.2.2.2.1)))))), ((cell_far (p := ⟨gb472, _, none⟩) (by first | exact Kd.own_blk (V62_away HO0_2.out HN62 (fun _ hk => hk.2)) | (rw [al_]; exact Kd.own_blk (V62_away HO0_2.out HN62 (fun _ hk => hk.2))) | (show (Addr.add _ _).block ≠ _; rw [al_]; exact Kd.own_blk (V62_away HO0_2.out HN62 (fun _ hk => hk.2))) | (dsimp only; exact Kd.own_blk (V62_away HO0_2.out HN62 (fun _ hk => hk.2)))) _).trans (((cell_far (p := ⟨gb472, _, none⟩) (by first | exact Kd.own_blk (V62_away HO0_2.out HN62 (fun _ hk => hk.2)) | (rw [al_]; exact Kd.own_blk (V62_away HO0_2.out HN62 (fun _ hk => hk.2))) | (show (Addr.add _ _).block ≠ _; rw [al_]; exact Kd.own_blk (V62_away HO0_2.out HN62 (fun _ hk => hk.2))) | (dsimp only; exact Kd.own_blk (V62_away HO0_2.out HN62 (fun _ hk => hk.2)))) _).trans (((cell_far (p := ⟨gb472, _, none⟩) (by first | exact Kd.own_blk (V62_away HO0_2.out HN62 (fun _ hk => hk.2)) | (rw [al_]; exact Kd.own_blk (V62_away HO0_2.out HN62 (fun _ hk => hk.2))) | (show (Addr.add _ _).block ≠ _; rw [al_]; exact Kd.own_blk (V62_away HO0_2.out HN62 (fun _ hk => hk.2))) | (dsimp only; exact Kd.own_blk (V62_away HO0_2.out HN62 (fun _ hk => hk.2)))) _).trans (hHeld.2.2.2.2.1)))))), ((cell_far (p := ⟨gb472, _, none⟩) (by first | exact Kd.own_blk (V62_away HO0_2.out HN62 (fun _ hk => hk.2)) | (rw [al_]; exact Kd.own_blk (V62_away HO0_2.out HN62 (fun _ hk => hk.2))) | (show (Addr.add _ _).block ≠ _; rw [al_]; exact Kd.own_blk (V62_away HO0_2.out HN62 (fun _ hk => hk.2))) | (dsimp only; exact Kd.own_blk (V62_away HO0_2.out HN62 (fun _ hk => hk.2)))) _).trans (((cell_far (p := ⟨gb472, _, none⟩) (by first | exact Kd.own_blk (V62_away HO0_2.out HN62 (fun _ hk => hk.2)) | (rw [al_]; exact Kd.own_blk (V62_away HO0_2.out HN62 (fun _ hk => hk.2))) | (show (Addr.add _ _).block ≠ _; rw [al_]; exact Kd.own_blk (V62_away HO0_2.out HN62 (fun _ hk => hk.2))) | (dsimp only; exact Kd.own_blk (V62_away HO0_2.out HN62 (fun _ hk => hk.2)))) _).trans (((cell_far (p := ⟨gb472, _, none⟩) (by first | exact Kd.own_blk (V62_away HO0_2.out HN62 (fun _ hk => hk.2)) | (rw [al_]; exact Kd.own_blk (V62_away HO0_2.out HN62 (fun _ hk => hk.2))) | (show (Addr.add _ _).block ≠ _; rw [al_]; exact Kd.own_blk (V62_away HO0_2.out HN62 (fun _ hk => hk.2))) | (dsimp only; exact Kd.own_blk (V62_away HO0_2.out HN62 (fun _ hk => hk.2)))) _).trans (hHeld.2.2.2.2.2.1)))))), ((cell_far (p := ⟨gb472, _, none⟩) (by first | exact Kd.own_blk (V62_away HL474_2.out HN63 (fun _ hk => hk.2)) | (rw [al_]; exact Kd.own_blk (V62_away HL474_2.out HN63 (fun _ hk => hk.2))) | (show (Addr.add _ _).block ≠ _; rw [al_]; exact Kd.own_blk (V62_away HL474_2.out HN63 (fun _ hk => hk.2))) | (dsimp only; exact Kd.own_blk (V62_away HL474_2.out HN63 (fun _ hk => hk.2)))) _).trans (((cell_far (p := ⟨gb472, _, none⟩) (by first | exact Kd.own_blk (V62_away HL474_2.out HN63 (fun _ hk => hk.2)) | (rw [al_]; exact Kd.own_blk (V62_away HL474_2.out HN63 (fun _ hk => hk.2))) | (show (Addr.add _ _).block ≠ _; rw [al_]; exact Kd.own_blk (V62_away HL474_2.out HN63 (fun _ hk => hk.2))) | (dsimp only; exact Kd.own_blk (V62_away HL474_2.out HN63 (fun _ hk => hk.2)))) _).trans (((cell_far (p := ⟨gb472, _, none⟩) (by first | exact Kd.own_blk (V62_away HL474_2.out HN63 (fun _ hk => hk.2)) | (rw [al_]; exact Kd.own_blk (V62_away HL474_2.out HN63 (fun _ hk => hk.2))) | (show (Addr.add _ _).block ≠ _; rw [al_]; exact Kd.own_blk (V62_away HL474_2.out HN63 (fun _ hk => hk.2))) | (dsimp only; exact Kd.own_blk (V62_away HL474_2.out HN63 (fun _ hk => hk.2)))) _).trans (hHeld.2.2.2.2.2.2.1)))))), ((cell_far (p := ⟨gb472, _, none⟩) (by first | exact Kd.own_blk (V62_away HL474_2.out HN63 (fun _ hk => hk.2)) | (rw [al_]; exact Kd.own_blk (V62_away HL474_2.out HN63 (fun _ hk => hk.2))) | (show (Addr.add _ _).block ≠ _; rw [al_]; exact Kd.own_blk (V62_away HL474_2.out HN63 (fun _ hk => hk.2))) | (dsimp only; exact Kd.own_blk (V62_away HL474_2.out HN63 (fun _ hk => hk.2)))) _).trans (((cell_far (p := ⟨gb472, _, none⟩) (by first | exact Kd.own_blk (V62_away HL474_2.out HN63 (fun _ hk => hk.2)) | (rw [al_]; exact Kd.own_blk (V62_away HL474_2.out HN63 (fun _ hk => hk.2))) | (show (Addr.add _ _).block ≠ _; rw [al_]; exact Kd.own_blk (V62_away HL474_2.out HN63 (fun _ hk => hk.2))) | (dsimp only; exact Kd.own_blk (V62_away HL474_2.out HN63 (fun _ hk => hk.2)))) _).trans (((cell_far (p := ⟨gb472, _, none⟩) (by first | exact Kd.own_blk (V62_away HL474_2.out HN63 (fun _ hk => hk.2)) | (rw [al_]; exact Kd.own_blk (V62_away HL474_2.out HN63 (fun _ hk => hk.2))) | (show (Addr.add _ _).block ≠ _; rw [al_]; exact Kd.own_blk (V62_away HL474_2.out HN63 (fun _ hk => hk.2))) | (dsimp only; exact Kd.own_blk (V62_away HL474_2.out HN63 (fun _ hk => hk.2)))) _).trans (hHeld.2.2.2.2.2.2.2.1)))))), ((cell_far (p := ⟨gb472, _, none⟩) (by first | exact Kd.own_blk (V62_away HL474_2.out HN63 (fun _ hk => hk.2)) | (rw [al_]; exact Kd.own_blk (V62_away HL474_2.out HN63 (fun _ hk => hk.2))) | (show (Addr.add _ _).block ≠ _; rw [al_]; exact Kd.own_blk (V62_away HL474_2.out HN63 (fun _ hk => hk.2))) | (dsimp only; exact Kd.own_blk (V62_away HL474_2.out HN63 (fun _ hk => hk.2)))) _).trans (((cell_far (p := ⟨gb472, _, none⟩) (by first | exact Kd.own_blk (V62_away HL474_2.out HN63 (fun _ hk => hk.2)) | (rw [al_]; exact Kd.own_blk (V62_away HL474_2.out HN63 (fun _ hk => hk.2))) | (show (Addr.add _ _).block ≠ _; rw [al_]; exact Kd.own_blk (V62_away HL474_2.out HN63 (fun _ hk => hk.2))) | (dsimp only; exact Kd.own_blk (V62_away HL474_2.out HN63 (fun _ hk => hk.2)))) _).trans (((cell_far (p := ⟨gb472, _, none⟩) (by first | exact Kd.own_blk (V62_away HL474_2.out HN63 (fun _ hk => hk.2)) | (rw [al_]; exact Kd.own_blk (V62_away HL474_2.out HN63 (fun _ hk => hk.2))) | (show (Addr.add _ _).block ≠ _; rw [al_]; exact Kd.own_blk (V62_away HL474_2.out HN63 (fun _ hk => hk.2))) | (dsimp only; exact Kd.own_blk (V62_away HL474_2.out HN63 (fun _ hk => hk.2)))) _).trans (hHeld.2.2.2.2.2.2.2.2.1)))))), ((cell_far (p := ⟨gb472, _, none⟩) (by first | exact Kd.own_blk (V62_away HO0_2.out HN62 (fun _ hk => hk.2)) | (rw [al_]; exact Kd.own_blk (V62_away HO0_2.out HN62 (fun _ hk => hk.2))) | (show (Addr.add _ _).block ≠ _; rw [al_]; exact Kd.own_blk (V62_away HO0_2.out HN62 (fun _ hk => hk.2))) | (dsimp only; exact Kd.own_blk (V62_away HO0_2.out HN62 (fun _ hk => hk.2)))) _).trans (((cell_far (p := ⟨gb472, _, none⟩) (by first | exact Kd.own_blk (V62_away HO0_2.out HN62 (fun _ hk => hk.2)) | (rw [al_]; exact Kd.own_blk (V62_away HO0_2.out HN62 (fun _ hk => hk.2))) | (show (Addr.add _ _).block ≠ _; rw [al_]; exact Kd.own_blk (V62_away HO0_2.out HN62 (fun _ hk => hk.2))) | (dsimp only; exact Kd.own_blk (V62_away HO0_2.out HN62 (fun _ hk => hk.2)))) _).trans (((cell_far (p := ⟨gb472, _, none⟩) (by first | exact Kd.own_blk (V62_away HO0_2.out HN62 (fun _ hk => hk.2)) | (rw [al_]; exact Kd.own_blk (V62_away HO0_2.out HN62 (fun _ hk => hk.2))) | (show (Addr.add _ _).block ≠ _; rw [al_]; exact Kd.own_blk (V62_away HO0_2.out HN62 (fun _ hk => hk.2))) | (dsimp only; exact Kd.own_blk (V62_away HO0_2.out HN62 (fun _ hk => hk.2)))) _).trans (hHeld.2.2.2.2.2.2.2.2.2.1)))))), ((cell_far (p := ⟨gb472, _, none⟩) (by first | exact Kd.own_blk (V62_away HO0_2.out HN62 (fun _ hk => hk.2)) | (rw [al_]; exact Kd.own_blk (V62_away HO0_2.out HN62 (fun _ hk => hk.2))) | (show (Addr.add _ _).block ≠ _; rw [al_]; exact Kd.own_blk (V62_away HO0_2.out HN62 (fun _ hk => hk.2))) | (dsimp only; exact Kd.own_blk (V62_away HO0_2.out HN62 (fun _ hk => hk.2)))) _).trans (((cell_far (p := ⟨gb472, _, none⟩) (by first | exact Kd.own_blk (V62_away HO0_2.out HN62 (fun _ hk => hk.2)) | (rw [al_]; exact Kd.own_blk (V62_away HO0_2.out HN62 (fun _ hk => hk.2))) | (show (Addr.add _ _).block ≠ _; rw [al_]; exact Kd.own_blk (V62_away HO0_2.out HN62 (fun _ hk => hk.2))) | (dsimp only; exact Kd.own_blk (V62_away HO0_2.out HN62 (fun _ hk => hk.2)))) _).trans (((cell_far (p := ⟨gb472, _, none⟩) (by first | exact Kd.own_blk (V62_away HO0_2.out HN62 (fun _ hk => hk.2)) | (rw [al_]; exact Kd.own_blk (V62_away HO0_2.out HN62 (fun _ hk => hk.2))) | (show (Addr.add _ _).block ≠ _; rw [al_]; exact Kd.own_blk (V62_away HO0_2.out HN62 (fun _ hk => hk.2))) | (dsimp only; exact Kd.own_blk (V62_away HO0_2.out HN62 (fun _ hk => hk.2)))) _).trans (hHeld.2.2.2.2.2.2.2.2.2.2.1)))))), ((cell_far (p := ⟨gb472, _, none⟩) (by first | exact Kd.own_blk (V62_away HO0_2.out HN62 (fun _ hk => hk.2)) | (rw [al_]; exact Kd.own_blk (V62_away HO0_2.out HN62 (fun _ hk => hk.2))) | (show (Addr.add _ _).block ≠ _; rw [al_]; exact Kd.own_blk (V62_away HO0_2.out HN62 (fun _ hk => hk.2))) | (dsimp only; exact Kd.own_blk (V62_away HO0_2.out HN62 (fun _ hk => hk.2)))) _).trans (((cell_far (p := ⟨gb472, _, none⟩) (by first | exact Kd.own_blk (V62_away HO0_2.out HN62 (fun _ hk => hk.2)) | (rw [al_]; exact Kd.own_blk (V62_away HO0_2.out HN62 (fun _ hk => hk.2))) | (show (Addr.add _ _).block ≠ _; rw [al_]; exact Kd.own_blk (V62_away HO0_2.out HN62 (fun _ hk => hk.2))) | (dsimp only; exact Kd.own_blk (V62_away HO0_2.out HN62 (fun _ hk => hk.2)))) _).trans (((cell_far (p := ⟨gb472, _, none⟩) (by first | exact Kd.own_blk (V62_away HO0_2.out HN62 (fun _ hk => hk.2)) | (rw [al_]; exact Kd.own_blk (V62_away HO0_2.out HN62 (fun _ hk => hk.2))) | (show (Addr.add _ _).block ≠ _; rw [al_]; exact Kd.own_blk (V62_away HO0_2.out HN62 (fun _ hk => hk.2))) | (dsimp only; exact Kd.own_blk (V62_away HO0_2.out HN62 (fun _ hk => hk.2)))) _).trans (hHeld.2.2.2.2.2.2.2.2.2.2.2))))))⟩ (fun hHeld => ?_)
            clear hK K
            refine pure_ (i := 15) (N := some 3) (v := ?_) (a' := ?_) #[true, true, true, true, true, true, true, true, true, true, true, true, true, true, true, true] rfl rfl (any_of HT_.out (by kernel_rfl)) (fun _ _ _ h => h) (Or.inl ⟨by rfl, ?_⟩) ?_ ?_
            rotate_left
            · intro w'
              go_simp
              with_reducible rfl
            rotate_left
            · simp only [Act.put, List.setIfInBounds_toArray, List.set_cons_zero, List.set_cons_succ, i64_w, i32_w]
              rfl
            refine done_ (done_of HT_.out (by kernel_rfl)) ?_
            try go_wp2
            refine bodyPost_ret (results_ct rfl _ _ gb472 62 #[.int .i64 t477, .int .i64 t478, .slice Ao16 t479.length co16] (0, 0) _ rfl (by (with_reducible repeat (first | refine ac_ ?_ _ | refine ae_ ?_ | refine ad_ ?_ _)); refine blk_put (cs := #[.int .i64 t477, .int .i64 t478, .slice none 0 0]) ?_ 2 _ rfl; (with_reducible repeat (first | refine ac_ ?_ _ | refine ae_ ?_ | refine ad_ ?_ _)); refine blk_put (cs := #[.int .i64 t477, .int .i64 0, .slice none 0 0]) ?_ 1 _ rfl; (with_reducible repeat (first | refine ac_ ?_ _ | refine ae_ ?_ | refine ad_ ?_ _)); refine blk_put (cs := #[.int .i64 0, .int .i64 0, .slice none 0 0]) ?_ 0 _ rfl; (with_reducible repeat (first | refine ac_ ?_ _ | refine ae_ ?_ | refine ad_ ?_ _)); exact BK472.out) Try.underlying62 rfl (by kernel_rfl)) rfl ?_
            exact ⟨_, by first | rfl | (simp [errW_none, errW_some] <;> rfl) | (simp [*, errW_none, errW_some] <;> rfl), by (with_reducible repeat (first | apply Kd.V_alloc | apply Kd.V_drewN | apply Kd.V_drew)); exact Kd.V_mono (Kd.V_far (p := ⟨gb472, 2, none⟩) (Kd.V_far (p := ⟨gb472, 1, none⟩) (Kd.V_far (p := ⟨gb472, 0, none⟩) (Kd.V_mono HO481.out (fun k_ hk => (⟨hk, hk.2.2⟩ : _ ∧ k_ ≠ gb472))) (fun _ hk => hk.2) (.int .i64 t477)) (fun _ hk => hk.2) (.int .i64 t478)) (fun _ hk => hk.2) (.slice Ao16 t479.length co16)) (fun _ hk => hk.1.1), by repeat (first | (with_reducible first | exact HB.out | apply ai_ | apply ag_ | apply ah_ | refine af_ ?_ GE471.out | refine af_ ?_ GE472.out) | exact HB.out)⟩
          · rw [if_neg c6] at H
            exact absurd H (by simp)
        · rw [if_neg c5] at H
          exact absurd H (by simp)
      · rw [if_neg c4] at H
        have c4b0 : (((rd_T62 l0_2 0).f0) == 3) = false := beq_eq_false_iff_ne.mpr c4
        have c4b1 : (((rd_T62 l0_2 0).f0) != 3) = true := bne_iff_ne.mpr c4
        simp only [Option.some.injEq, Prod.mk.injEq] at H
        obtain ⟨rfl, rfl, rfl, rfl⟩ := H
        go_enter Try.func108, Try.ntmps108
        go_wp2_with (first | ((with_reducible refine gate_dst (N := 1) rfl ?_); refine box_event ?hg (N := 1) ?hd (cs := #[.int .i64 a0_0, .int .i64 a0_1, .slice A0_2 l0_2.length c0_2]) (t := 62) ?hr ?_; (case hd => rfl); (case hg => rfl); (case hr => first | (go_simp; done) | (go_simp; rfl)); intro gb471 hg w18 hbox hb; have n0_ := ab_ (Kd.V_below (Kd.V_elderB (by (with_reducible repeat (first | apply Kd.V_alloc | apply Kd.V_drewN | apply Kd.V_drew)); exact HO0_2.out) gb471 (Nat.le_of_eq hg.symm)) hb); have n1_ := ab_ (ap_ (by repeat (first | (with_reducible first | exact HB.out | apply ai_ | apply ag_ | apply ah_) | exact HB.out)) hb); have n2_ := ab_ (hbox); have n3_ := ab_ ((by rw [hg]; exact (below_size (by repeat (first | (with_reducible first | exact HB.out | apply ai_ | apply ag_ | apply ah_) | exact HB.out))) : w.heap.size ≤ gb471)); have n4_ := ab_ ((by rw [hg]; exact (below_size (by repeat (first | (with_reducible first | exact HB.out | apply ai_ | apply ag_ | apply ah_) | exact HB.out))) : w.heap.size ≤ gb471)); clear HO0_2; clear HB; have HO0_2 := n0_; have HB := n1_; have BK471 := n2_; have GW471 := n3_; have GE471 := n4_; clear n0_ n1_ n2_ n3_ n4_; clear hb hbox hg) | ((with_reducible refine gate_dst (N := 2) rfl ?_); refine box_event ?hg (N := 2) ?hd (cs := #[.int .i64 0, .int .i64 0, .slice none 0 0]) (t := 62) ?hr ?_; (case hd => rfl); (case hg => rfl); (case hr => first | (go_simp; done) | (go_simp; rfl)); intro gb472 hg w19 hbox hb; have n0_ := ab_ (Kd.V_below (Kd.V_elderB (by (with_reducible repeat (first | apply Kd.V_alloc | apply Kd.V_drewN | apply Kd.V_drew)); exact HO0_2.out) gb472 (Nat.le_of_eq hg.symm)) hb); have n1_ := ab_ (blk_below (g := gb471) (o := .cells #[.int .i64 a0_0, .int .i64 a0_1, .slice A0_2 l0_2.length c0_2] 62 (0, 0)) (by (with_reducible repeat (first | refine ac_ ?_ _ | refine ae_ ?_ | refine ad_ ?_ _)); exact BK471.out) hb); have n2_ := ab_ (ap_ (by repeat (first | (with_reducible first | exact HB.out | apply ai_ | apply ag_ | apply ah_ | refine af_ ?_ GE471.out) | exact HB.out)) hb); have n3_ := ab_ (hbox); have n4_ := ab_ ((by rw [hg]; exact (below_size (by repeat (first | (with_reducible first | exact HB.out | apply ai_ | apply ag_ | apply ah_ | refine af_ ?_ GE471.out) | exact HB.out))) : w.heap.size ≤ gb472)); have n5_ := ab_ ((by rw [hg]; exact (below_size (by repeat (first | (with_reducible first | exact HB.out | apply ai_ | apply ag_ | apply ah_ | refine af_ ?_ GE471.out) | exact HB.out))) : w.heap.size ≤ gb472)); have n6_ := ab_ ((by rw [hg]; exact ak_ (blk_lt (g := gb471) (o := .cells #[.int .i64 a0_0, .int .i64 a0_1, .slice A0_2 l0_2.length c0_2] 62 (0, 0)) (by (with_reducible repeat (first | refine ac_ ?_ _ | refine ae_ ?_ | refine ad_ ?_ _)); exact BK471.out)) : gb471 ≠ gb472)); have n7_ := ab_ ((by rw [hg]; exact Nat.ne_of_gt (blk_lt (g := gb471) (o := .cells #[.int .i64 a0_0, .int .i64 a0_1, .slice A0_2 l0_2.length c0_2] 62 (0, 0)) (by (with_reducible repeat (first | refine ac_ ?_ _ | refine ae_ ?_ | refine ad_ ?_ _)); exact BK471.out)) : gb472 ≠ gb471)); clear HO0_2; clear BK471; clear HB; have HO0_2 := n0_; have BK471 := n1_; have HB := n2_; have BK472 := n3_; have GW472 := n4_; have GE472 := n5_; have NB471_472 := n6_; have NB472_471 := n7_; clear n0_ n1_ n2_ n3_ n4_ n5_ n6_ n7_; clear hb hbox hg; have hnb20 := NB471_472.out; have hnc20 := NB472_471.out; have hcz21_0 : w19.cell? ⟨gb471, 0, none⟩ = some (.int .i64 a0_0) := (an_ BK471.out 0).trans rfl; have hcz21_1 : w19.cell? ⟨gb471, 1, none⟩ = some (.int .i64 a0_1) := (an_ BK471.out 1).trans rfl; have hcz21_2 : w19.cell? ⟨gb471, 2, none⟩ = some (.slice A0_2 l0_2.length c0_2) := (an_ BK471.out 2).trans rfl; have hfz21_0 := am_ BK471.out 0; have hfz21_1 := am_ BK471.out 1; have hfz21_2 := am_ BK471.out 2; have p473 : 0 ≤ (0 : Int) := (by omega); have q473 : 0 < (l0_2.length : Int) := of_decide_eq_true (by first | (with_reducible assumption) | assumption); obtain ⟨ad473, A473_2, c473_2, e473, hx473_0, hx473_1, hx473_2, hl473_2, hi473_2⟩ := at_T62 (Kd.V_reads' HO0_2.out).2.2 0 p473 q473; cases e473; obtain ⟨ce473, hce473, hMe473, hcc473⟩ := Kd.V_get HO0_2.out z62 0 p473 (by first | exact q473 | exact of_decide_eq_true (by first | (with_reducible assumption) | assumption) | (have e_ := (Kd.V_reads' HO0_2.out).1; omega)); obtain ⟨ua473_2, uc473_2, rfl, ul473_2, ge473_2⟩ := k62_openF hMe473; have hv473_2 := hcc473 2 _ rfl; rw [add_field _ _ 2 (by omega)] at hv473_2; replace hv473_2 := Option.some.inj (hv473_2.symm.trans hx473_2); injection hv473_2 with hva_ hvn_ hvc_; rw [hva_] at ge473_2; rw [hvc_] at ul473_2; have HL473_2 := ab_ (show Kd.V k62 62 _ w.heap.size _ _ ((rd_T62 l0_2 0).f2) from Kd.V_mk ul473_2 ge473_2); clear hva_ hvn_ hvc_ ge473_2 ul473_2; clear hcc473 hce473; have qi473 : (0 < l0_2.length) = True := eq_true (by omega); (try rw [show ((0 : Int)).toNat = 0 from rfl] at hx473_0); (try rw [show 0 * 3 = 0 from rfl] at hx473_0); (try rw [Addr.add_zero'] at hx473_0); (try rw [show ((0 : Int)).toNat = 0 from rfl] at hx473_1); (try rw [show 0 * 3 = 0 from rfl] at hx473_1); (try rw [Addr.add_zero'] at hx473_1); (try rw [show ((0 : Int)).toNat = 0 from rfl] at hx473_2); (try rw [show 0 * 3 = 0 from rfl] at hx473_2); (try rw [Addr.add_zero'] at hx473_2); have HR473_2 := ab_ hi473_2; have HC473_2 := ab_ hl473_2; clear hi473_2 hl473_2; replace p473 := eq_true p473; replace q473 := eq_true q473; have hcz22_0 : w19.cell? ⟨gb472, 0, none⟩ = some (.int .i64 0) := (an_ BK472.out 0).trans rfl; have hcz22_1 : w19.cell? ⟨gb472, 1, none⟩ = some (.int .i64 0) := (an_ BK472.out 1).trans rfl; have hcz22_2 : w19.cell? ⟨gb472, 2, none⟩ = some (.slice none 0 0) := (an_ BK472.out 2).trans rfl; have hfz22_0 := am_ BK472.out 0; have hfz22_1 := am_ BK472.out 1; have hfz22_2 := am_ BK472.out 2))
        refine bodyPost_ret (results_ct rfl _ _ gb472 62 #[.int .i64 0, .int .i64 0, .slice none 0 0] (0, 0) _ rfl (by (with_reducible repeat (first | refine ac_ ?_ _ | refine ae_ ?_ | refine ad_ ?_ _)); refine blk_put (cs := #[.int .i64 0, .int .i64 0, .slice none 0 0]) ?_ 2 _ rfl; (with_reducible repeat (first | refine ac_ ?_ _ | refine ae_ ?_ | refine ad_ ?_ _)); refine blk_put (cs := #[.int .i64 0, .int .i64 0, .slice none 0 0]) ?_ 1 _ rfl; (with_reducible repeat (first | refine ac_ ?_ _ | refine ae_ ?_ | refine ad_ ?_ _)); refine blk_put (cs := #[.int .i64 0, .int .i64 0, .slice none 0 0]) ?_ 0 _ rfl; (with_reducible repeat (first | refine ac_ ?_ _ | refine ae_ ?_ | refine ad_ ?_ _)); exact BK472.out) Try.underlying62 rfl (by kernel_rfl)) rfl ?_
        exact ⟨_, by first | rfl | (simp [errW_none, errW_some] <;> rfl) | (simp [*, errW_none, errW_some] <;> rfl), (by exact Kd.V_nil _ _ _ _ _), by repeat (first | (with_reducible first | exact HB.out | apply ai_ | apply ag_ | apply ah_ | refine af_ ?_ GE471.out | refine af_ ?_ GE472.out) | exact HB.out)⟩
    · rw [if_neg c3] at H
      exact absurd H (by simp)
  · rw [if_neg c2] at H
    have c2b0 : (a0_0 == 4) = false := beq_eq_false_iff_ne.mpr c2
    have c2b1 : (a0_0 != 4) = true := bne_iff_ne.mpr c2
    by_cases c23 : a0_0 = 7
    · rw [if_pos c23] at H
      have c23b0 : (a0_0 == 7) = true := beq_iff_eq.mpr c23
      have c23b1 : (a0_0 != 7) = false := bne_eq_false_iff_eq.mpr c23
      clear c23
      by_cases c24 : 1 < (l0_2.length : Int)
      · rw [if_pos c24] at H
        have c24b0 : decide (1 < (l0_2.length : Int)) = true := ao_ c24
        have c24b1 : decide (1 < l0_2.length) = true := ao_ (by omega)
        clear c24
        by_cases c25 : 0 < (l0_2.length : Int)
        · rw [if_pos c25] at H
          have c25b0 : decide (0 < (l0_2.length : Int)) = true := ao_ c25
          have c25b1 : decide (0 < l0_2.length) = true := ao_ (by omega)
          have HN62 : 0 < l0_2.length := by omega
          clear c25
          replace H := Option.bind_eq_some_iff.mp H
          obtain ⟨⟨t485, t486, t487, t490⟩, A260, H⟩ := H
          replace H : (some (t485, t486, t487, t490)) = some (r1, r2, r3, r4) := H
          have A26 := ab_ A260
          clear A260
          simp only [Option.some.injEq, Prod.mk.injEq] at H
          obtain ⟨rfl, rfl, rfl, rfl⟩ := H
          go_enter Try.func108, Try.ntmps108
          try go_wp2_with (first | ((with_reducible refine gate_dst (N := 1) rfl ?_); refine box_event ?hg (N := 1) ?hd (cs := #[.int .i64 a0_0, .int .i64 a0_1, .slice A0_2 l0_2.length c0_2]) (t := 62) ?hr ?_; (case hd => rfl); (case hg => rfl); (case hr => first | (go_simp; done) | (go_simp; rfl)); intro gb471 hg w27 hbox hb; have n0_ := ab_ (Kd.V_below (Kd.V_elderB (by (with_reducible repeat (first | apply Kd.V_alloc | apply Kd.V_drewN | apply Kd.V_drew)); exact HO0_2.out) gb471 (Nat.le_of_eq hg.symm)) hb); have n1_ := ab_ (ap_ (by repeat (first | (with_reducible first | exact HB.out | apply ai_ | apply ag_ | apply ah_) | exact HB.out)) hb); have n2_ := ab_ (hbox); have n3_ := ab_ ((by rw [hg]; exact (below_size (by repeat (first | (with_reducible first | exact HB.out | apply ai_ | apply ag_ | apply ah_) | exact HB.out))) : w.heap.size ≤ gb471)); have n4_ := ab_ ((by rw [hg]; exact (below_size (by repeat (first | (with_reducible first | exact HB.out | apply ai_ | apply ag_ | apply ah_) | exact HB.out))) : w.heap.size ≤ gb471)); clear HO0_2; clear HB; have HO0_2 := n0_; have HB := n1_; have BK471 := n2_; have GW471 := n3_; have GE471 := n4_; clear n0_ n1_ n2_ n3_ n4_; clear hb hbox hg) | ((with_reducible refine gate_dst (N := 2) rfl ?_); refine box_event ?hg (N := 2) ?hd (cs := #[.int .i64 0, .int .i64 0, .slice none 0 0]) (t := 62) ?hr ?_; (case hd => rfl); (case hg => rfl); (case hr => first | (go_simp; done) | (go_simp; rfl)); intro gb472 hg w28 hbox hb; have n0_ := ab_ (Kd.V_below (Kd.V_elderB (by (with_reducible repeat (first | apply Kd.V_alloc | apply Kd.V_drewN | apply Kd.V_drew)); exact HO0_2.out) gb472 (Nat.le_of_eq hg.symm)) hb); have n1_ := ab_ (blk_below (g := gb471) (o := .cells #[.int .i64 a0_0, .int .i64 a0_1, .slice A0_2 l0_2.length c0_2] 62 (0, 0)) (by (with_reducible repeat (first | refine ac_ ?_ _ | refine ae_ ?_ | refine ad_ ?_ _)); exact BK471.out) hb); have n2_ := ab_ (ap_ (by repeat (first | (with_reducible first | exact HB.out | apply ai_ | apply ag_ | apply ah_ | refine af_ ?_ GE471.out) | exact HB.out)) hb); have n3_ := ab_ (hbox); have n4_ := ab_ ((by rw [hg]; exact (below_size (by repeat (first | (with_reducible first | exact HB.out | apply ai_ | apply ag_ | apply ah_ | refine af_ ?_ GE471.out) | exact HB.out))) : w.heap.size ≤ gb472)); have n5_ := ab_ ((by rw [hg]; exact (below_size (by repeat (first | (with_reducible first | exact HB.out | apply ai_ | apply ag_ | apply ah_ | refine af_ ?_ GE471.out) | exact HB.out))) : w.heap.size ≤ gb472)); have n6_ := ab_ ((by rw [hg]; exact ak_ (blk_lt (g := gb471) (o := .cells #[.int .i64 a0_0, .int .i64 a0_1, .slice A0_2 l0_2.length c0_2] 62 (0, 0)) (by (with_reducible repeat (first | refine ac_ ?_ _ | refine ae_ ?_ | refine ad_ ?_ _)); exact BK471.out)) : gb471 ≠ gb472)); have n7_ := ab_ ((by rw [hg]; exact Nat.ne_of_gt (blk_lt (g := gb471) (o := .cells #[.int .i64 a0_0, .int .i64 a0_1, .slice A0_2 l0_2.length c0_2] 62 (0, 0)) (by (with_reducible repeat (first | refine ac_ ?_ _ | refine ae_ ?_ | refine ad_ ?_ _)); exact BK471.out)) : gb472 ≠ gb471)); clear HO0_2; clear BK471; clear HB; have HO0_2 := n0_; have BK471 := n1_; have HB := n2_; have BK472 := n3_; have GW472 := n4_; have GE472 := n5_; have NB471_472 := n6_; have NB472_471 := n7_; clear n0_ n1_ n2_ n3_ n4_ n5_ n6_ n7_; clear hb hbox hg; have hnb29 := NB471_472.out; have hnc29 := NB472_471.out; have hcz30_0 : w28.cell? ⟨gb471, 0, none⟩ = some (.int .i64 a0_0) := (an_ BK471.out 0).trans rfl; have hcz30_1 : w28.cell? ⟨gb471, 1, none⟩ = some (.int .i64 a0_1) := (an_ BK471.out 1).trans rfl; have hcz30_2 : w28.cell? ⟨gb471, 2, none⟩ = some (.slice A0_2 l0_2.length c0_2) := (an_ BK471.out 2).trans rfl; have hfz30_0 := am_ BK471.out 0; have hfz30_1 := am_ BK471.out 1; have hfz30_2 := am_ BK471.out 2))
          have n0_ := ab_ (Kd.V_drew HO0_2.out)
          have n1_ := ab_ (ae_ BK471.out)
          have n2_ := ab_ (ae_ BK472.out)
          have n3_ := ab_ (ah_ HB.out)
          clear HO0_2
          clear BK471
          clear BK472
          clear HB
          have HO0_2 := n0_
          have BK471 := n1_
          have BK472 := n2_
          have HB := n3_
          clear n0_ n1_ n2_ n3_
          have p483 : 0 ≤ (1 : Int) := (by omega)
          have q483 : 1 < (l0_2.length : Int) := of_decide_eq_true (by first | (with_reducible assumption) | assumption)
          obtain ⟨ad483, A483_2, c483_2, e483, hx483_0, hx483_1, hx483_2, hl483_2, hi483_2⟩ := at_T62 (Kd.V_reads' HO0_2.out).2.2 1 p483 q483
          cases e483
          obtain ⟨ce483, hce483, hMe483, hcc483⟩ := Kd.V_get HO0_2.out z62 1 p483 (by first | exact q483 | exact of_decide_eq_true (by first | (with_reducible assumption) | assumption) | (have e_ := (Kd.V_reads' HO0_2.out).1; omega))
          obtain ⟨ua483_2, uc483_2, rfl, ul483_2, ge483_2⟩ := k62_openF hMe483
          have hv483_2 := hcc483 2 _ rfl
          rw [add_field _ _ 2 (by omega)] at hv483_2
          replace hv483_2 := Option.some.inj (hv483_2.symm.trans hx483_2)
          injection hv483_2 with hva_ hvn_ hvc_
          rw [hva_] at ge483_2
          rw [hvc_] at ul483_2
          have HL483_2 := ab_ (show Kd.V k62 62 _ w.heap.size _ _ ((rd_T62 l0_2 1).f2) from Kd.V_mk ul483_2 ge483_2)
          clear hva_ hvn_ hvc_ ge483_2 ul483_2
          clear hcc483 hce483
          (try simp only [show (1 : Int).toNat = 1 from rfl, Nat.reduceMul, Nat.reduceEqDiff, Go.Addr.add, ↓reduceIte] at hx483_0)
          (try simp only [show (1 : Int).toNat = 1 from rfl, Nat.reduceMul, Nat.reduceEqDiff, Go.Addr.add, ↓reduceIte] at hx483_1)
          (try simp only [show (1 : Int).toNat = 1 from rfl, Nat.reduceMul, Nat.reduceEqDiff, Go.Addr.add, ↓reduceIte] at hx483_2)
          have qi483 : (1 < l0_2.length) = True := eq_true (by omega)
          (try rw [show ((1 : Int)).toNat = 1 from rfl] at hx483_0)
          (try rw [show 1 * 3 = 3 from rfl] at hx483_0)
          (try rw [show ((1 : Int)).toNat = 1 from rfl] at hx483_1)
          (try rw [show 1 * 3 = 3 from rfl] at hx483_1)
          (try rw [show ((1 : Int)).toNat = 1 from rfl] at hx483_2)
          (try rw [show 1 * 3 = 3 from rfl] at hx483_2)
          have HR483_2 := ab_ hi483_2
          have HC483_2 := ab_ hl483_2
          clear hi483_2 hl483_2
          replace p483 := eq_true p483
          replace q483 := eq_true q483
          have p484 : 0 ≤ (0 : Int) := (by omega)
          have q484 : 0 < (l0_2.length : Int) := of_decide_eq_true (by first | (with_reducible assumption) | assumption)
          obtain ⟨ad484, A484_2, c484_2, e484, hx484_0, hx484_1, hx484_2, hl484_2, hi484_2⟩ := at_T62 (Kd.V_reads' HO0_2.out).2.2 0 p484 q484
          obtain rfl : ad483 = ad484 := (by injection e484)
          obtain ⟨ce484, hce484, hMe484, hcc484⟩ := Kd.V_get HO0_2.out z62 0 p484 (by first | exact q484 | exact of_decide_eq_true (by first | (with_reducible assumption) | assumption) | (have e_ := (Kd.V_reads' HO0_2.out).1; omega))
          obtain ⟨ua484_2, uc484_2, rfl, ul484_2, ge484_2⟩ := k62_openF hMe484
          have hv484_2 := hcc484 2 _ rfl
          rw [add_field _ _ 2 (by omega)] at hv484_2
          replace hv484_2 := Option.some.inj (hv484_2.symm.trans hx484_2)
          injection hv484_2 with hva_ hvn_ hvc_
          rw [hva_] at ge484_2
          rw [hvc_] at ul484_2
          have HL484_2 := ab_ (show Kd.V k62 62 _ w.heap.size _ _ ((rd_T62 l0_2 0).f2) from Kd.V_mk ul484_2 ge484_2)
          clear hva_ hvn_ hvc_ ge484_2 ul484_2
          clear hcc484 hce484
          have qi484 : (0 < l0_2.length) = True := eq_true (by omega)
          (try rw [show ((0 : Int)).toNat = 0 from rfl] at hx484_0)
          (try rw [show 0 * 3 = 0 from rfl] at hx484_0)
          (try rw [Addr.add_zero'] at hx484_0)
          (try rw [show ((0 : Int)).toNat = 0 from rfl] at hx484_1)
          (try rw [show 0 * 3 = 0 from rfl] at hx484_1)
          (try rw [Addr.add_zero'] at hx484_1)
          (try rw [show ((0 : Int)).toNat = 0 from rfl] at hx484_2)
          (try rw [show 0 * 3 = 0 from rfl] at hx484_2)
          (try rw [Addr.add_zero'] at hx484_2)
          have HR484_2 := ab_ hi484_2
          have HC484_2 := ab_ hl484_2
          clear hi484_2 hl484_2
          replace p484 := eq_true p484
          replace q484 := eq_true q484
          refine start_ (n := 13) (S := fun w' => w'.cell? ⟨gb471, 0, none⟩ = some (.int .i64 a0_0) ∧ w'.cell? ⟨gb471, 1, none⟩ = some (.int .i64 a0_1) ∧ w'.cell? ⟨gb471, 2, none⟩ = some (.slice (some ad483) l0_2.length c0_2) ∧ w'.cell? ⟨ad483.block, ad483.off + 3, none⟩ = some (.int .i64 ((rd_T62 l0_2 1).f0)) ∧ w'.cell? ⟨ad483.block, ad483.off + 3 + 1, none⟩ = some (.int .i64 ((rd_T62 l0_2 1).f1)) ∧ w'.cell? ⟨ad483.block, ad483.off + 3 + 2, none⟩ = some (.slice A483_2 ((rd_T62 l0_2 1).f2).length c483_2) ∧ w'.cell? ad483 = some (.int .i64 ((rd_T62 l0_2 0).f0)) ∧ w'.cell? ⟨ad483.block, ad483.off + 1, none⟩ = some (.int .i64 ((rd_T62 l0_2 0).f1)) ∧ w'.cell? ⟨ad483.block, ad483.off + 2, none⟩ = some (.slice A484_2 ((rd_T62 l0_2 0).f2).length c484_2)) (ds := []) #[false, false, false, false, false, false, false, false, false, false, false, false, false] (by kernel_rfl) rfl rfl ⟨(an_ BK471.out 0).trans rfl, (an_ BK471.out 1).trans rfl, (an_ BK471.out 2).trans rfl, hx483_0, hx483_1, hx483_2, hx484_0, hx484_1, hx484_2⟩ (fun hHeld => ?_); refine with_tabW spec_l4Contract.tab6 spec_l4Contract.bits6 (fun HT_ HW_ => ?_)
          generalize w28.drew = w31 at HO0_2 BK471 BK472 HB HL483_2 HL484_2 HR483_2 HR484_2 hx483_0 hx483_1 hx483_2 hx484_0 hx484_1 hx484_2 hHeld ⊢
          refine pure_ (i := 0) (N := some 32) (v := ?_) (a' := ?_) #[true, false, false, false, false, false, false, false, false, false, false, false, false] rfl rfl (any_of HT_.out (by kernel_rfl)) (fun _ _ _ h => h) (Or.inl ⟨by rfl, ?_⟩) ?_ ?_
          rotate_left
          · intro w'
            go_simp
            with_reducible rfl
          rotate_left
          · simp only [Act.put, List.setIfInBounds_toArray, List.set_cons_zero, List.set_cons_succ, i64_w, i32_w]
            rfl
          refine pure_ (i := 4) (N := some 36) (v := ?_) (a' := ?_) #[true, false, false, false, true, false, false, false, false, false, false, false, false] rfl rfl (any_of HT_.out (by kernel_rfl)) (fun _ _ _ h => h) (Or.inl ⟨by rfl, ?_⟩) ?_ ?_
          rotate_left
          · intro w'
            go_simp
            with_reducible rfl
          rotate_left
          · simp only [Act.put, List.setIfInBounds_toArray, List.set_cons_zero, List.set_cons_succ, i64_w, i32_w]
            rfl
          refine take_ (i := 1) (N := some 33) (v := ?_) (a' := ?_) #[true, true, false, false, true, false, false, false, false, false, false, false, false] rfl rfl (take_ofW HT_.out HW_.out (by kernel_rfl)) (fun _ _ _ h => h) (Or.inl ⟨by rfl, ?_⟩) hHeld ?_ ?_
          rotate_left
          · rintro w' ⟨s0, s1, s2, s3, s4, s5, s6, s7, s8⟩
            go_simp
            with_reducible rfl
          rotate_left
          · simp only [Act.put, List.setIfInBounds_toArray, List.set_cons_zero, List.set_cons_succ, i64_w, i32_w]
            rfl
          refine pure_ (i := 2) (N := some 34) (v := ?_) (a' := ?_) #[true, true, true, false, true, false, false, false, false, false, false, false, false] rfl rfl (any_of HT_.out (by kernel_rfl)) (fun _ _ _ h => h) (Or.inl ⟨by rfl, ?_⟩) ?_ ?_
          rotate_left
          · intro w'
            go_simp
            with_reducible rfl
          rotate_left
          · simp only [Act.put, List.setIfInBounds_toArray, List.set_cons_zero, List.set_cons_succ, i64_w, i32_w]
            rfl
          refine take_ (i := 3) (N := some 35) (v := ?_) (a' := ?_) #[true, true, true, true, true, false, false, false, false, false, false, false, false] rfl rfl (take_ofW HT_.out HW_.out (by kernel_rfl)) (fun _ _ _ h => h) (Or.inl ⟨by rfl, ?_⟩) hHeld ?_ ?_
          rotate_left
          · rintro w' ⟨s0, s1, s2, s3, s4, s5, s6, s7, s8⟩
            go_simp
            with_reducible rfl
          rotate_left
          · simp only [Act.put, List.setIfInBounds_toArray, List.set_cons_zero, List.set_cons_succ, i64_w, i32_w]
            rfl
          refine take_ (i := 5) (N := some 37) (v := ?_) (a' := ?_) #[true, true, true, true, true, true, false, false, false, false, false, false, false] rfl rfl (take_ofW HT_.out HW_.out (by kernel_rfl)) (fun _ _ _ h => h) (Or.inl ⟨by rfl, ?_⟩) hHeld ?_ ?_
          rotate_left
          · rintro w' ⟨s0, s1, s2, s3, s4, s5, s6, s7, s8⟩
            go_simp
            with_reducible rfl
          rotate_left
          · simp only [Act.put, List.setIfInBounds_toArray, List.set_cons_zero, List.set_cons_succ, i64_w, i32_w]
            rfl
          refine pure_ (i := 6) (N := some 38) (v := ?_) (a' := ?_) #[true, true, true, true, true, true, true, false, false, false, false, false, false] rfl rfl (any_of HT_.out (by kernel_rfl)) (fun _ _ _ h => h) (Or.inl ⟨by rfl, ?_⟩) ?_ ?_
          rotate_left
          · intro w'
            go_simp
            with_reducible rfl
          rotate_left
          · simp only [Act.put, List.setIfInBounds_toArray, List.set_cons_zero, List.set_cons_succ, i64_w, i32_w]
            rfl
          refine take_ (i := 7) (N := some 39) (v := ?_) (a' := ?_) #[true, true, true, true, true, true, true, true, false, false, false, false, false] rfl rfl (take_ofW HT_.out HW_.out (by kernel_rfl)) (fun _ _ _ h => h) (Or.inl ⟨by rfl, ?_⟩) hHeld ?_ ?_
          rotate_left
          · rintro w' ⟨s0, s1, s2, s3, s4, s5, s6, s7, s8⟩
            go_simp
            with_reducible rfl
          rotate_left
          · simp only [Act.put, List.setIfInBounds_toArray, List.set_cons_zero, List.set_cons_succ, i64_w, i32_w]
            rfl
          refine one_ (i := 8) (N := some 40) #[true, true, true, true, true, true, true, true, true, false, false, false, false] rfl rfl (one_of HT_.out (by kernel_rfl)) (by decide) (fun K hK => ?_)
          refine goes_ Try.func60 (by kernel_rfl) rfl #[.agg #[.int .i64 ((rd_T62 l0_2 1).f0), .int .i64 ((rd_T62 l0_2 1).f1), .slice A483_2 ((rd_T62 l0_2 1).f2).length c483_2], .int .i64 0, .agg #[.int .i64 ((rd_T62 l0_2 0).f0), .int .i64 ((rd_T62 l0_2 0).f1), .slice A484_2 ((rd_T62 l0_2 0).f2).length c484_2]] (by rfl) rfl rfl (by (try simp only [List.map_toArray, List.map_cons, List.map_nil]); first | done | rfl | (simp only [List.length_drop, List.length_take]; rfl)) ?_
          with_reducible refine (spec_l3Put.calls k ((rd_T62 l0_2 1).f0) ((rd_T62 l0_2 1).f1) (fun k_ => (((P0_2_ k_ ∨ w.heap.size ≤ k_) ∧ k_ ≠ gb471) ∧ k_ ≠ gb472)) _ _ ((rd_T62 l0_2 1).f2) 0 ((rd_T62 l0_2 0).f0) ((rd_T62 l0_2 0).f1) _ _ ((rd_T62 l0_2 0).f2) t485 t486 t487 t490 _ ?side1 ?side2 ?side3 A26.out).mono ?_
          (case side1 => exact HL483_2.out)
          (case side2 => repeat (first | exact (by repeat (first | (with_reducible exact HR484_2.out) | (with_reducible refine Kd.C_alloc ?_ _) | (with_reducible refine Kd.C_drewN ?_ _) | (with_reducible refine Kd.C_drew ?_) | exact HR484_2.out)) | (with_reducible refine Kd.C_alloc ?_ _) | (with_reducible refine Kd.C_drewN ?_ _) | (with_reducible refine Kd.C_drew ?_)))
          (case side3 => exact HC484_2.out)
          rintro e w32 ⟨v488, rfl, ho0, hb⟩
          have HS3_ := (hb.cell (aa_ _ _ (hHeld.2.2.2.1))).trans (hHeld.2.2.2.1)
          have HS4_ := (hb.cell (aa_ _ _ (hHeld.2.2.2.2.1))).trans (hHeld.2.2.2.2.1)
          have HS5_ := (hb.cell (aa_ _ _ (hHeld.2.2.2.2.2.1))).trans (hHeld.2.2.2.2.2.1)
          have HS6_ := (hb.cell (aa_ _ _ (hHeld.2.2.2.2.2.2.1))).trans (hHeld.2.2.2.2.2.2.1)
          have HS7_ := (hb.cell (aa_ _ _ (hHeld.2.2.2.2.2.2.2.1))).trans (hHeld.2.2.2.2.2.2.2.1)
          have HS8_ := (hb.cell (aa_ _ _ (hHeld.2.2.2.2.2.2.2.2))).trans (hHeld.2.2.2.2.2.2.2.2)
          refine ⟨_, rfl, ?_⟩
          have n0_ := ab_ (Kd.V_below (by (with_reducible repeat (first | apply Kd.V_alloc | apply Kd.V_drewN | apply Kd.V_drew)); exact HO0_2.out) hb)
          have n1_ := ab_ (Kd.V_below (by (with_reducible repeat (first | apply Kd.V_alloc | apply Kd.V_drewN | apply Kd.V_drew)); exact HL483_2.out) hb)
          have n2_ := ab_ (Kd.V_below (by (with_reducible repeat (first | apply Kd.V_alloc | apply Kd.V_drewN | apply Kd.V_drew)); exact HL484_2.out) hb)
          have n3_ := ab_ (Kd.V_lower (Kd.V_mono (ok' := fun k_ => (P0_2_ k_ ∨ w.heap.size ≤ k_) ∧ k_ ≠ gb471 ∧ k_ ≠ gb472) ho0 (fun k_ hk_ => ⟨Or.elim hk_ (fun hs_ => hs_.1.1) (fun hn_ => (.inr (Nat.le_trans (below_size (by repeat (first | (with_reducible first | exact HB.out | apply ai_ | apply ag_ | apply ah_ | refine af_ ?_ GE471.out | refine af_ ?_ GE472.out) | exact HB.out))) hn_))), Or.elim hk_ (fun hs_ => hs_.1.2) (fun hn_ => (Kd.freshB (g := gb471) (o := .cells #[.int .i64 a0_0, .int .i64 a0_1, .slice (some ad483) l0_2.length c0_2] 62 (0, 0)) (by (with_reducible repeat (first | refine ac_ ?_ _ | refine ae_ ?_ | refine ad_ ?_ _)); exact BK471.out) k_ hn_)), Or.elim hk_ (fun hs_ => hs_.2) (fun hn_ => (Kd.freshB (g := gb472) (o := .cells #[.int .i64 0, .int .i64 0, .slice none 0 0] 62 (0, 0)) (by (with_reducible repeat (first | refine ac_ ?_ _ | refine ae_ ?_ | refine ad_ ?_ _)); exact BK472.out) k_ hn_))⟩)) (below_size (by repeat (first | (with_reducible first | exact HB.out | apply ai_ | apply ag_ | apply ah_ | refine af_ ?_ GE471.out | refine af_ ?_ GE472.out) | exact HB.out))))
          have n4_ := ab_ (blk_below (g := gb471) (o := .cells #[.int .i64 a0_0, .int .i64 a0_1, .slice (some ad483) l0_2.length c0_2] 62 (0, 0)) (by (with_reducible repeat (first | refine ac_ ?_ _ | refine ae_ ?_ | refine ad_ ?_ _)); exact BK471.out) hb)
          have n5_ := ab_ (blk_below (g := gb472) (o := .cells #[.int .i64 0, .int .i64 0, .slice none 0 0] 62 (0, 0)) (by (with_reducible repeat (first | refine ac_ ?_ _ | refine ae_ ?_ | refine ad_ ?_ _)); exact BK472.out) hb)
          have n6_ := ab_ (Kd.C_below (by repeat (first | (with_reducible exact HR483_2.out) | (with_reducible refine Kd.C_alloc ?_ _) | (with_reducible refine Kd.C_drewN ?_ _) | (with_reducible refine Kd.C_drew ?_) | exact HR483_2.out)) hb)
          have n7_ := ab_ (Kd.C_below (by repeat (first | (with_reducible exact HR484_2.out) | (with_reducible refine Kd.C_alloc ?_ _) | (with_reducible refine Kd.C_drewN ?_ _) | (with_reducible refine Kd.C_drew ?_) | exact HR484_2.out)) hb)
          have n8_ := ab_ (ap_ (by repeat (first | (with_reducible first | exact HB.out | apply ai_ | apply ag_ | apply ah_ | refine af_ ?_ GE471.out | refine af_ ?_ GE472.out) | exact HB.out)) hb)
          clear HO0_2
          clear HL483_2
          clear HL484_2
          clear BK471
          clear BK472
          clear HR483_2
          clear HR484_2
          clear HB
          have HO0_2 := n0_
          have HL483_2 := n1_
          have HL484_2 := n2_
          have HO489 := n3_
          have BK471 := n4_
          have BK472 := n5_
          have HR483_2 := n6_
          have HR484_2 := n7_
          have HB := n8_
          clear n0_ n1_ n2_ n3_ n4_ n5_ n6_ n7_ n8_
          (try clear hb)
          (try clear hb2)
          (try clear hk)
          (try clear hi)
          (try clear ho0)
          obtain ⟨Ao35, co35, eo35⟩ := Kd.V_slice HO489.out
          (first | subst eo35 | (injection eo35 with f1_ f2_ f3_; have f4_ := f1_.symm; have f5_ := f3_.symm; clear f1_ f2_ f3_; subst f4_; subst f5_))
          refine hK.out _ _ ⟨(an_ BK471.out 0).trans rfl, (an_ BK471.out 1).trans rfl, (an_ BK471.out 2).trans rfl, HS3_, HS4_, HS5_, HS6_, HS7_, HS8_⟩ (fun hHeld => ?_)
          clear hK K
          refine norm_ (a' := ?_) ?_ ?_
          rotate_left
          · show Act.put _ (some 40) _ = _
            simp only [Act.put, List.setIfInBounds_toArray, List.set_cons_zero, List.set_cons_succ, i64_w, i32_w]
            rfl
          refine pure_ (i := 9) (N := some 41) (v := ?_) (a' := ?_) #[true, true, true, true, true, true, true, true, true, true, false, false, false] rfl rfl (any_of HT_.out (by kernel_rfl)) (fun _ _ _ h => h) (Or.inl ⟨by rfl, ?_⟩) ?_ ?_
          rotate_left
          · intro w'
            go_simp
            with_reducible rfl
          rotate_left
          · simp only [Act.put, List.setIfInBounds_toArray, List.set_cons_zero, List.set_cons_succ, i64_w, i32_w]
            rfl
          refine pure_ (i := 10) (N := some 42) (v := ?_) (a' := ?_) #[true, true, true, true, true, true, true, true, true, true, true, false, false] rfl rfl (any_of HT_.out (by kernel_rfl)) (fun _ _ _ h => h) (Or.inl ⟨by rfl, ?_⟩) ?_ ?_
          rotate_left
          · intro w'
            go_simp
            with_reducible rfl
          rotate_left
          · simp only [Act.put, List.setIfInBounds_toArray, List.set_cons_zero, List.set_cons_succ, i64_w, i32_w]
            rfl
          refine one_ (i := 11) (N := none) #[true, true, true, true, true, true, true, true, true, true, true, true, false] rfl rfl (one_of HT_.out (by kernel_rfl)) (by decide) (fun K hK => ?_)
          have hs33 : w32.cell? ⟨gb472, 0, none⟩ = some (.int .i64 0) := (an_ BK472.out 0).trans rfl
          have hfs33 := am_ BK472.out 0
          have hns33_0 := NB471_472.out
          have hms33_0 := NB472_471.out
          have hs34 : w32.cell? ⟨gb472, 1, none⟩ = some (.int .i64 0) := (an_ BK472.out 1).trans rfl
          have hfs34 := am_ BK472.out 1
          have hns34_0 := NB471_472.out
          have hms34_0 := NB472_471.out
          have hs36 : w32.cell? ⟨gb472, 2, none⟩ = some (.slice none 0 0) := (an_ BK472.out 2).trans rfl
          have hfs36 := am_ BK472.out 2
          have hns36_0 := NB471_472.out
          have hms36_0 := NB472_471.out
          refine skip_ (w1 := ?_) (by rfl) rfl ?_ ?_
          rotate_left
          · go_simp
            rfl
          refine hK.out _ _ ⟨((cell_far (p := ⟨gb472, _, none⟩) NB471_472.out _).trans (((cell_far (p := ⟨gb472, _, none⟩) NB471_472.out _).trans (((cell_far (p := ⟨gb472, _, none⟩) NB471_472.out _).trans (hHeld.1)))))), ((cell_far (p := ⟨gb472, _, none⟩) NB471_472.out _).trans (((cell_far (p := ⟨gb472, _, none⟩) NB471_472.out _).trans (((cell_far (p := ⟨gb472, _, none⟩) NB471_472.out _).trans (hHeld.2.1)))))), ((cell_far (p := ⟨gb472, _, none⟩) NB471_472.out _).trans (((cell_far (p := ⟨gb472, _, none⟩) NB471_472.out _).trans (((cell_far (p := ⟨gb472, _, none⟩) NB471_472.out _).trans (hHeld.2.2.1)))))), ((cell_far (p := ⟨gb472, _, none⟩) (by first | exact Kd.own_blk (V62_away HO0_2.out HN62 (fun _ hk => hk.2)) | (rw [al_]; exact Kd.own_blk (V62_away HO0_2.out HN62 (fun _ hk => hk.2))) | (show (Addr.add _ _).block ≠ _; rw [al_]; exact Kd.own_blk (V62_away HO0_2.out HN62 (fun _ hk => hk.2))) | (dsimp only; exact Kd.own_blk (V62_away HO0_2.out HN62 (fun _ hk => hk.2)))) _).trans (((cell_far (p := ⟨gb472, _, none⟩) (by first | exact Kd.own_blk (V62_away HO0_2.out HN62 (fun _ hk => hk.2)) | (rw [al_]; exact Kd.own_blk (V62_away HO0_2.out HN62 (fun _ hk => hk.2))) | (show (Addr.add _ _).block ≠ _; rw [al_]; exact Kd.own_blk (V62_away HO0_2.out HN62 (fun _ hk => hk.2))) | (dsimp only; exact Kd.own_blk (V62_away HO0_2.out HN62 (fun _ hk => hk.2)))) _).trans (((cell_far (p := ⟨gb472, _, none⟩) (by first | exact Kd.own_blk (V62_away HO0_2.out HN62 (fun _ hk => hk.2)) | (rw [al_]; exact Kd.own_blk (V62_away HO0_2.out HN62 (fun _ hk => hk.2))) | (show (Addr.add _ _).block ≠ _; rw [al_]; exact Kd.own_blk (V62_away HO0_2.out HN62 (fun _ hk => hk.2))) | (dsimp only; exact Kd.own_blk (V62_away HO0_2.out HN62 (fun _ hk => hk.2)))) _).trans (hHeld.2.2.2.1)))))), ((cell_far (p := ⟨gb472, _, none⟩) (by first | exact Kd.own_blk (V62_away HO0_2.out HN62 (fun _ hk => hk.2)) | (rw [al_]; exact Kd.own_blk (V62_away HO0_2.out HN62 (fun _ hk => hk.2))) | (show (Addr.add _ _).block ≠ _; rw [al_]; exact Kd.own_blk (V62_away HO0_2.out HN62 (fun _ hk => hk.2))) | (dsimp only; exact Kd.own_blk (V62_away HO0_2.out HN62 (fun _ hk => hk.2)))) _).trans (((cell_far (p := ⟨gb472, _, none⟩) (by first | exact Kd.own_blk (V62_away HO0_2.out HN62 (fun _ hk => hk.2)) | (rw [al_]; exact Kd.own_blk (V62_away HO0_2.out HN62 (fun _ hk => hk.2))) | (show (Addr.add _ _).block ≠ _; rw [al_]; exact Kd.own_blk (V62_away HO0_2.out HN62 (fun _ hk => hk.2))) | (dsimp only; exact Kd.own_blk (V62_away HO0_2.out HN62 (fun _ hk => hk.2)))) _).trans (((cell_far (p := ⟨gb472, _, none⟩) (by first | exact Kd.own_blk (V62_away HO0_2.out HN62 (fun _ hk => hk.2)) | (rw [al_]; exact Kd.own_blk (V62_away HO0_2.out HN62 (fun _ hk => hk.2))) | (show (Addr.add _ _).block ≠ _; rw [al_]; exact Kd.own_blk (V62_away HO0_2.out HN62 (fun _ hk => hk.2))) | (dsimp only; exact Kd.own_blk (V62_away HO0_2.out HN62 (fun _ hk => hk.2)))) _).trans (hHeld.2.2.2.2.1)))))), ((cell_far (p := ⟨gb472, _, none⟩) (by first | exact Kd.own_blk (V62_away HO0_2.out HN62 (fun _ hk => hk.2)) | (rw [al_]; exact Kd.own_blk (V62_away HO0_2.out HN62 (fun _ hk => hk.2))) | (show (Addr.add _ _).block ≠ _; rw [al_]; exact Kd.own_blk (V62_away HO0_2.out HN62 (fun _ hk => hk.2))) | (dsimp only; exact Kd.own_blk (V62_away HO0_2.out HN62 (fun _ hk => hk.2)))) _).trans (((cell_far (p := ⟨gb472, _, none⟩) (by first | exact Kd.own_blk (V62_away HO0_2.out HN62 (fun _ hk => hk.2)) | (rw [al_]; exact Kd.own_blk (V62_away HO0_2.out HN62 (fun _ hk => hk.2))) | (show (Addr.add _ _).block ≠ _; rw [al_]; exact Kd.own_blk (V62_away HO0_2.out HN62 (fun _ hk => hk.2))) | (dsimp only; exact Kd.own_blk (V62_away HO0_2.out HN62 (fun _ hk => hk.2)))) _).trans (((cell_far (p := ⟨gb472, _, none⟩) (by first | exact Kd.own_blk (V62_away HO0_2.out HN62 (fun _ hk => hk.2)) | (rw [al_]; exact Kd.own_blk (V62_away HO0_2.out HN62 (fun _ hk => hk.2))) | (show (Addr.add _ _).block ≠ _; rw [al_]; exact Kd.own_blk (V62_away HO0_2.out HN62 (fun _ hk => hk.2))) | (dsimp only; exact Kd.own_blk (V62_away HO0_2.out HN62 (fun _ hk => hk.2)))) _).trans (hHeld.2.2.2.2.2.1)))))), ((cell_far (p := ⟨gb472, _, none⟩) (by first | exact Kd.own_blk (V62_away HO0_2.out HN62 (fun _ hk => hk.2)) | (rw [al_]; exact Kd.own_blk (V62_away HO0_2.out HN62 (fun _ hk => hk.2))) | (show (Addr.add _ _).block ≠ _; rw [al_]; exact Kd.own_blk (V62_away HO0_2.out HN62 (fun _ hk => hk.2))) | (dsimp only; exact Kd.own_blk (V62_away HO0_2.out HN62 (fun _ hk => hk.2)))) _).trans (((cell_far (p := ⟨gb472, _, none⟩) (by first | exact Kd.own_blk (V62_away HO0_2.out HN62 (fun _ hk => hk.2)) | (rw [al_]; exact Kd.own_blk (V62_away HO0_2.out HN62 (fun _ hk => hk.2))) | (show (Addr.add _ _).block ≠ _; rw [al_]; exact Kd.own_blk (V62_away HO0_2.out HN62 (fun _ hk => hk.2))) | (dsimp only; exact Kd.own_blk (V62_away HO0_2.out HN62 (fun _ hk => hk.2)))) _).trans (((cell_far (p := ⟨gb472, _, none⟩) (by first | exact Kd.own_blk (V62_away HO0_2.out HN62 (fun _ hk => hk.2)) | (rw [al_]; exact Kd.own_blk (V62_away HO0_2.out HN62 (fun _ hk => hk.2))) | (show (Addr.add _ _).block ≠ _; rw [al_]; exact Kd.own_blk (V62_away HO0_2.out HN62 (fun _ hk => hk.2))) | (dsimp only; exact Kd.own_blk (V62_away HO0_2.out HN62 (fun _ hk => hk.2)))) _).trans (hHeld.2.2.2.2.2.2.1)))))), ((cell_far (p := ⟨gb472, _, none⟩) (by first | exact Kd.own_blk (V62_away HO0_2.out HN62 (fun _ hk => hk.2)) | (rw [al_]; exact Kd.own_blk (V62_away HO0_2.out HN62 (fun _ hk => hk.2))) | (show (Addr.add _ _).block ≠ _; rw [al_]; exact Kd.own_blk (V62_away HO0_2.out HN62 (fun _ hk => hk.2))) | (dsimp only; exact Kd.own_blk (V62_away HO0_2.out HN62 (fun _ hk => hk.2)))) _).trans (((cell_far (p := ⟨gb472, _, none⟩) (by first | exact Kd.own_blk (V62_away HO0_2.out HN62 (fun _ hk => hk.2)) | (rw [al_]; exact Kd.own_blk (V62_away HO0_2.out HN62 (fun _ hk => hk.2))) | (show (Addr.add _ _).block ≠ _; rw [al_]; exact Kd.own_blk (V62_away HO0_2.out HN62 (fun _ hk => hk.2))) | (dsimp only; exact Kd.own_blk (V62_away HO0_2.out HN62 (fun _ hk => hk.2)))) _).trans (((cell_far (p := ⟨gb472, _, none⟩) (by first | exact Kd.own_blk (V62_away HO0_2.out HN62 (fun _ hk => hk.2)) | (rw [al_]; exact Kd.own_blk (V62_away HO0_2.out HN62 (fun _ hk => hk.2))) | (show (Addr.add _ _).block ≠ _; rw [al_]; exact Kd.own_blk (V62_away HO0_2.out HN62 (fun _ hk => hk.2))) | (dsimp only; exact Kd.own_blk (V62_away HO0_2.out HN62 (fun _ hk => hk.2)))) _).trans (hHeld.2.2.2.2.2.2.2.1)))))), ((cell_far (p := ⟨gb472, _, none⟩) (by first | exact Kd.own_blk (V62_away HO0_2.out HN62 (fun _ hk => hk.2)) | (rw [al_]; exact Kd.own_blk (V62_away HO0_2.out HN62 (fun _ hk => hk.2))) | (show (Addr.add _ _).block ≠ _; rw [al_]; exact Kd.own_blk (V62_away HO0_2.out HN62 (fun _ hk => hk.2))) | (dsimp only; exact Kd.own_blk (V62_away HO0_2.out HN62 (fun _ hk => hk.2)))) _).trans (((cell_far (p := ⟨gb472, _, none⟩) (by first | exact Kd.own_blk (V62_away HO0_2.out HN62 (fun _ hk => hk.2)) | (rw [al_]; exact Kd.own_blk (V62_away HO0_2.out HN62 (fun _ hk => hk.2))) | (show (Addr.add _ _).block ≠ _; rw [al_]; exact Kd.own_blk (V62_away HO0_2.out HN62 (fun _ hk => hk.2))) | (dsimp only; exact Kd.own_blk (V62_away HO0_2.out HN62 (fun _ hk => hk.2)))) _).trans (((cell_far (p := ⟨gb472, _, none⟩) (by first | exact Kd.own_blk (V62_away HO0_2.out HN62 (fun _ hk => hk.2)) | (rw [al_]; exact Kd.own_blk (V62_away HO0_2.out HN62 (fun _ hk => hk.2))) | (show (Addr.add _ _).block ≠ _; rw [al_]; exact Kd.own_blk (V62_away HO0_2.out HN62 (fun _ hk => hk.2))) | (dsimp only; exact Kd.own_blk (V62_away HO0_2.out HN62 (fun _ hk => hk.2)))) _).trans (hHeld.2.2.2.2.2.2.2.2))))))⟩ (fun hHeld => ?_)
          clear hK K
          refine pure_ (i := 12) (N := some 3) (v := ?_) (a' := ?_) #[true, true, true, true, true, true, true, true, true, true, true, true, true] rfl rfl (any_of HT_.out (by kernel_rfl)) (fun _ _ _ h => h) (Or.inl ⟨by rfl, ?_⟩) ?_ ?_
          rotate_left
          · intro w'
            go_simp
            with_reducible rfl
          rotate_left
          · simp only [Act.put, List.setIfInBounds_toArray, List.set_cons_zero, List.set_cons_succ, i64_w, i32_w]
            rfl
          refine done_ (done_of HT_.out (by kernel_rfl)) ?_
          try go_wp2
          refine bodyPost_ret (results_ct rfl _ _ gb472 62 #[.int .i64 t485, .int .i64 t486, .slice Ao35 t487.length co35] (0, 0) _ rfl (by (with_reducible repeat (first | refine ac_ ?_ _ | refine ae_ ?_ | refine ad_ ?_ _)); refine blk_put (cs := #[.int .i64 t485, .int .i64 t486, .slice none 0 0]) ?_ 2 _ rfl; (with_reducible repeat (first | refine ac_ ?_ _ | refine ae_ ?_ | refine ad_ ?_ _)); refine blk_put (cs := #[.int .i64 t485, .int .i64 0, .slice none 0 0]) ?_ 1 _ rfl; (with_reducible repeat (first | refine ac_ ?_ _ | refine ae_ ?_ | refine ad_ ?_ _)); refine blk_put (cs := #[.int .i64 0, .int .i64 0, .slice none 0 0]) ?_ 0 _ rfl; (with_reducible repeat (first | refine ac_ ?_ _ | refine ae_ ?_ | refine ad_ ?_ _)); exact BK472.out) Try.underlying62 rfl (by kernel_rfl)) rfl ?_
          exact ⟨_, by first | rfl | (simp [errW_none, errW_some] <;> rfl) | (simp [*, errW_none, errW_some] <;> rfl), by (with_reducible repeat (first | apply Kd.V_alloc | apply Kd.V_drewN | apply Kd.V_drew)); exact Kd.V_mono (Kd.V_far (p := ⟨gb472, 2, none⟩) (Kd.V_far (p := ⟨gb472, 1, none⟩) (Kd.V_far (p := ⟨gb472, 0, none⟩) (Kd.V_mono HO489.out (fun k_ hk => (⟨hk, hk.2.2⟩ : _ ∧ k_ ≠ gb472))) (fun _ hk => hk.2) (.int .i64 t485)) (fun _ hk => hk.2) (.int .i64 t486)) (fun _ hk => hk.2) (.slice Ao35 t487.length co35)) (fun _ hk => hk.1.1), by repeat (first | (with_reducible first | exact HB.out | apply ai_ | apply ag_ | apply ah_ | refine af_ ?_ GE471.out | refine af_ ?_ GE472.out) | exact HB.out)⟩
        · rw [if_neg c25] at H
          exact absurd H (by simp)
      · rw [if_neg c24] at H
        exact absurd H (by simp)
    · rw [if_neg c23] at H
      have c23b0 : (a0_0 == 7) = false := beq_eq_false_iff_ne.mpr c23
      have c23b1 : (a0_0 != 7) = true := bne_iff_ne.mpr c23
      by_cases c37 : a0_0 = 5
      · rw [if_pos c37] at H
        subst c37
        by_cases d1 : 1 < (l0_2.length : Int)
        · rw [if_pos d1] at H
          by_cases d2 : ((rd_T62 l0_2 0).f0) = 2 ∧ ((rd_T62 l0_2 1).f0) = 2 ∧ -1000000 ≤ ((rd_T62 l0_2 0).f1) + ((rd_T62 l0_2 1).f1) ∧ ((rd_T62 l0_2 0).f1) + ((rd_T62 l0_2 1).f1) ≤ 1000000
          · rw [if_pos d2] at H
            exact k5_use hs0_2 d1 d2 H
          · rw [if_neg d2] at H; cases H
        · rw [if_neg d1] at H; cases H
      · rw [if_neg c37] at H
        have c37b0 : (a0_0 == 5) = false := beq_eq_false_iff_ne.mpr c37
        have c37b1 : (a0_0 != 5) = true := bne_iff_ne.mpr c37
        by_cases c112 : a0_0 = 6
        · rw [if_pos c112] at H
          have c112b0 : (a0_0 == 6) = true := beq_iff_eq.mpr c112
          have c112b1 : (a0_0 != 6) = false := bne_eq_false_iff_eq.mpr c112
          clear c112
          by_cases c113 : 0 < (l0_2.length : Int)
          · rw [if_pos c113] at H
            have c113b0 : decide (0 < (l0_2.length : Int)) = true := ao_ c113
            have c113b1 : decide (0 < l0_2.length) = true := ao_ (by omega)
            have HN62 : 0 < l0_2.length := by omega
            clear c113
            by_cases c114 : ((rd_T62 l0_2 0).f0) = 2
            · rw [if_pos c114] at H
              have c114b0 : (((rd_T62 l0_2 0).f0) == 2) = true := beq_iff_eq.mpr c114
              have c114b1 : (((rd_T62 l0_2 0).f0) != 2) = false := bne_eq_false_iff_eq.mpr c114
              clear c114
              by_cases c115 : ((rd_T62 l0_2 0).f1) = 0
              · rw [if_pos c115] at H
                have c115b0 : (((rd_T62 l0_2 0).f1) == 0) = true := beq_iff_eq.mpr c115
                have c115b1 : (((rd_T62 l0_2 0).f1) != 0) = false := bne_eq_false_iff_eq.mpr c115
                clear c115
                by_cases c116 : 1 < (l0_2.length : Int)
                · rw [if_pos c116] at H
                  have c116b0 : decide (1 < (l0_2.length : Int)) = true := ao_ c116
                  have c116b1 : decide (1 < l0_2.length) = true := ao_ (by omega)
                  clear c116
                  simp only [Option.some.injEq, Prod.mk.injEq] at H
                  obtain ⟨rfl, rfl, rfl, rfl⟩ := H
                  go_enter Try.func108, Try.ntmps108
                  go_wp2_with (first | ((with_reducible refine gate_dst (N := 1) rfl ?_); refine box_event ?hg (N := 1) ?hd (cs := #[.int .i64 a0_0, .int .i64 a0_1, .slice A0_2 l0_2.length c0_2]) (t := 62) ?hr ?_; (case hd => rfl); (case hg => rfl); (case hr => first | (go_simp; done) | (go_simp; rfl)); intro gb471 hg w117 hbox hb; have n0_ := ab_ (Kd.V_below (Kd.V_elderB (by (with_reducible repeat (first | apply Kd.V_alloc | apply Kd.V_drewN | apply Kd.V_drew)); exact HO0_2.out) gb471 (Nat.le_of_eq hg.symm)) hb); have n1_ := ab_ (ap_ (by repeat (first | (with_reducible first | exact HB.out | apply ai_ | apply ag_ | apply ah_) | exact HB.out)) hb); have n2_ := ab_ (hbox); have n3_ := ab_ ((by rw [hg]; exact (below_size (by repeat (first | (with_reducible first | exact HB.out | apply ai_ | apply ag_ | apply ah_) | exact HB.out))) : w.heap.size ≤ gb471)); have n4_ := ab_ ((by rw [hg]; exact (below_size (by repeat (first | (with_reducible first | exact HB.out | apply ai_ | apply ag_ | apply ah_) | exact HB.out))) : w.heap.size ≤ gb471)); clear HO0_2; clear HB; have HO0_2 := n0_; have HB := n1_; have BK471 := n2_; have GW471 := n3_; have GE471 := n4_; clear n0_ n1_ n2_ n3_ n4_; clear hb hbox hg) | ((with_reducible refine gate_dst (N := 2) rfl ?_); refine box_event ?hg (N := 2) ?hd (cs := #[.int .i64 0, .int .i64 0, .slice none 0 0]) (t := 62) ?hr ?_; (case hd => rfl); (case hg => rfl); (case hr => first | (go_simp; done) | (go_simp; rfl)); intro gb472 hg w118 hbox hb; have n0_ := ab_ (Kd.V_below (Kd.V_elderB (by (with_reducible repeat (first | apply Kd.V_alloc | apply Kd.V_drewN | apply Kd.V_drew)); exact HO0_2.out) gb472 (Nat.le_of_eq hg.symm)) hb); have n1_ := ab_ (blk_below (g := gb471) (o := .cells #[.int .i64 a0_0, .int .i64 a0_1, .slice A0_2 l0_2.length c0_2] 62 (0, 0)) (by (with_reducible repeat (first | refine ac_ ?_ _ | refine ae_ ?_ | refine ad_ ?_ _)); exact BK471.out) hb); have n2_ := ab_ (ap_ (by repeat (first | (with_reducible first | exact HB.out | apply ai_ | apply ag_ | apply ah_ | refine af_ ?_ GE471.out) | exact HB.out)) hb); have n3_ := ab_ (hbox); have n4_ := ab_ ((by rw [hg]; exact (below_size (by repeat (first | (with_reducible first | exact HB.out | apply ai_ | apply ag_ | apply ah_ | refine af_ ?_ GE471.out) | exact HB.out))) : w.heap.size ≤ gb472)); have n5_ := ab_ ((by rw [hg]; exact (below_size (by repeat (first | (with_reducible first | exact HB.out | apply ai_ | apply ag_ | apply ah_ | refine af_ ?_ GE471.out) | exact HB.out))) : w.heap.size ≤ gb472)); have n6_ := ab_ ((by rw [hg]; exact ak_ (blk_lt (g := gb471) (o := .cells #[.int .i64 a0_0, .int .i64 a0_1, .slice A0_2 l0_2.length c0_2] 62 (0, 0)) (by (with_reducible repeat (first | refine ac_ ?_ _ | refine ae_ ?_ | refine ad_ ?_ _)); exact BK471.out)) : gb471 ≠ gb472)); have n7_ := ab_ ((by rw [hg]; exact Nat.ne_of_gt (blk_lt (g := gb471) (o := .cells #[.int .i64 a0_0, .int .i64 a0_1, .slice A0_2 l0_2.length c0_2] 62 (0, 0)) (by (with_reducible repeat (first | refine ac_ ?_ _ | refine ae_ ?_ | refine ad_ ?_ _)); exact BK471.out)) : gb472 ≠ gb471)); clear HO0_2; clear BK471; clear HB; have HO0_2 := n0_; have BK471 := n1_; have HB := n2_; have BK472 := n3_; have GW472 := n4_; have GE472 := n5_; have NB471_472 := n6_; have NB472_471 := n7_; clear n0_ n1_ n2_ n3_ n4_ n5_ n6_ n7_; clear hb hbox hg; have hnb119 := NB471_472.out; have hnc119 := NB472_471.out; have hcz120_0 : w118.cell? ⟨gb471, 0, none⟩ = some (.int .i64 a0_0) := (an_ BK471.out 0).trans rfl; have hcz120_1 : w118.cell? ⟨gb471, 1, none⟩ = some (.int .i64 a0_1) := (an_ BK471.out 1).trans rfl; have hcz120_2 : w118.cell? ⟨gb471, 2, none⟩ = some (.slice A0_2 l0_2.length c0_2) := (an_ BK471.out 2).trans rfl; have hfz120_0 := am_ BK471.out 0; have hfz120_1 := am_ BK471.out 1; have hfz120_2 := am_ BK471.out 2; have p496 : 0 ≤ (0 : Int) := (by omega); have q496 : 0 < (l0_2.length : Int) := of_decide_eq_true (by first | (with_reducible assumption) | assumption); obtain ⟨ad496, A496_2, c496_2, e496, hx496_0, hx496_1, hx496_2, hl496_2, hi496_2⟩ := at_T62 (Kd.V_reads' HO0_2.out).2.2 0 p496 q496; cases e496; obtain ⟨ce496, hce496, hMe496, hcc496⟩ := Kd.V_get HO0_2.out z62 0 p496 (by first | exact q496 | exact of_decide_eq_true (by first | (with_reducible assumption) | assumption) | (have e_ := (Kd.V_reads' HO0_2.out).1; omega)); obtain ⟨ua496_2, uc496_2, rfl, ul496_2, ge496_2⟩ := k62_openF hMe496; have hv496_2 := hcc496 2 _ rfl; rw [add_field _ _ 2 (by omega)] at hv496_2; replace hv496_2 := Option.some.inj (hv496_2.symm.trans hx496_2); injection hv496_2 with hva_ hvn_ hvc_; rw [hva_] at ge496_2; rw [hvc_] at ul496_2; have HL496_2 := ab_ (show Kd.V k62 62 _ w.heap.size _ _ ((rd_T62 l0_2 0).f2) from Kd.V_mk ul496_2 ge496_2); clear hva_ hvn_ hvc_ ge496_2 ul496_2; clear hcc496 hce496; have qi496 : (0 < l0_2.length) = True := eq_true (by omega); (try rw [show ((0 : Int)).toNat = 0 from rfl] at hx496_0); (try rw [show 0 * 3 = 0 from rfl] at hx496_0); (try rw [Addr.add_zero'] at hx496_0); (try rw [show ((0 : Int)).toNat = 0 from rfl] at hx496_1); (try rw [show 0 * 3 = 0 from rfl] at hx496_1); (try rw [Addr.add_zero'] at hx496_1); (try rw [show ((0 : Int)).toNat = 0 from rfl] at hx496_2); (try rw [show 0 * 3 = 0 from rfl] at hx496_2); (try rw [Addr.add_zero'] at hx496_2); have HR496_2 := ab_ hi496_2; have HC496_2 := ab_ hl496_2; clear hi496_2 hl496_2; replace p496 := eq_true p496; replace q496 := eq_true q496; have p497 : 0 ≤ (0 : Int) := (by omega); have q497 : 0 < (l0_2.length : Int) := of_decide_eq_true (by first | (with_reducible assumption) | assumption); obtain ⟨ad497, A497_2, c497_2, e497, hx497_0, hx497_1, hx497_2, hl497_2, hi497_2⟩ := at_T62 (Kd.V_reads' HO0_2.out).2.2 0 p497 q497; obtain rfl : ad496 = ad497 := (by injection e497); obtain ⟨ce497, hce497, hMe497, hcc497⟩ := Kd.V_get HO0_2.out z62 0 p497 (by first | exact q497 | exact of_decide_eq_true (by first | (with_reducible assumption) | assumption) | (have e_ := (Kd.V_reads' HO0_2.out).1; omega)); obtain ⟨ua497_2, uc497_2, rfl, ul497_2, ge497_2⟩ := k62_openF hMe497; have hv497_2 := hcc497 2 _ rfl; rw [add_field _ _ 2 (by omega)] at hv497_2; replace hv497_2 := Option.some.inj (hv497_2.symm.trans hx497_2); injection hv497_2 with hva_ hvn_ hvc_; rw [hva_] at ge497_2; rw [hvc_] at ul497_2; have HL497_2 := ab_ (show Kd.V k62 62 _ w.heap.size _ _ ((rd_T62 l0_2 0).f2) from Kd.V_mk ul497_2 ge497_2); clear hva_ hvn_ hvc_ ge497_2 ul497_2; clear hcc497 hce497; have qi497 : (0 < l0_2.length) = True := eq_true (by omega); (try rw [show ((0 : Int)).toNat = 0 from rfl] at hx497_0); (try rw [show 0 * 3 = 0 from rfl] at hx497_0); (try rw [Addr.add_zero'] at hx497_0); (try rw [show ((0 : Int)).toNat = 0 from rfl] at hx497_1); (try rw [show 0 * 3 = 0 from rfl] at hx497_1); (try rw [Addr.add_zero'] at hx497_1); (try rw [show ((0 : Int)).toNat = 0 from rfl] at hx497_2); (try rw [show 0 * 3 = 0 from rfl] at hx497_2); (try rw [Addr.add_zero'] at hx497_2); have HR497_2 := ab_ hi497_2; have HC497_2 := ab_ hl497_2; clear hi497_2 hl497_2; replace p497 := eq_true p497; replace q497 := eq_true q497; have ea_ := Option.some.inj (hx496_2.symm.trans hx497_2); injection ea_ with ea_ en_ ec_; subst ea_; subst ec_; clear en_; have p498 : 0 ≤ (1 : Int) := (by omega); have q498 : 1 < (l0_2.length : Int) := of_decide_eq_true (by first | (with_reducible assumption) | assumption); obtain ⟨ad498, A498_2, c498_2, e498, hx498_0, hx498_1, hx498_2, hl498_2, hi498_2⟩ := at_T62 (Kd.V_reads' HO0_2.out).2.2 1 p498 q498; obtain rfl : ad496 = ad498 := (by injection e498); obtain ⟨ce498, hce498, hMe498, hcc498⟩ := Kd.V_get HO0_2.out z62 1 p498 (by first | exact q498 | exact of_decide_eq_true (by first | (with_reducible assumption) | assumption) | (have e_ := (Kd.V_reads' HO0_2.out).1; omega)); obtain ⟨ua498_2, uc498_2, rfl, ul498_2, ge498_2⟩ := k62_openF hMe498; have hv498_2 := hcc498 2 _ rfl; rw [add_field _ _ 2 (by omega)] at hv498_2; replace hv498_2 := Option.some.inj (hv498_2.symm.trans hx498_2); injection hv498_2 with hva_ hvn_ hvc_; rw [hva_] at ge498_2; rw [hvc_] at ul498_2; have HL498_2 := ab_ (show Kd.V k62 62 _ w.heap.size _ _ ((rd_T62 l0_2 1).f2) from Kd.V_mk ul498_2 ge498_2); clear hva_ hvn_ hvc_ ge498_2 ul498_2; clear hcc498 hce498; (try simp only [show (1 : Int).toNat = 1 from rfl, Nat.reduceMul, Nat.reduceEqDiff, Go.Addr.add, ↓reduceIte] at hx498_0); (try simp only [show (1 : Int).toNat = 1 from rfl, Nat.reduceMul, Nat.reduceEqDiff, Go.Addr.add, ↓reduceIte] at hx498_1); (try simp only [show (1 : Int).toNat = 1 from rfl, Nat.reduceMul, Nat.reduceEqDiff, Go.Addr.add, ↓reduceIte] at hx498_2); have qi498 : (1 < l0_2.length) = True := eq_true (by omega); (try rw [show ((1 : Int)).toNat = 1 from rfl] at hx498_0); (try rw [show 1 * 3 = 3 from rfl] at hx498_0); (try rw [show ((1 : Int)).toNat = 1 from rfl] at hx498_1); (try rw [show 1 * 3 = 3 from rfl] at hx498_1); (try rw [show ((1 : Int)).toNat = 1 from rfl] at hx498_2); (try rw [show 1 * 3 = 3 from rfl] at hx498_2); have HR498_2 := ab_ hi498_2; have HC498_2 := ab_ hl498_2; clear hi498_2 hl498_2; replace p498 := eq_true p498; replace q498 := eq_true q498; have hcz121_0 : w118.cell? ⟨gb472, 0, none⟩ = some (.int .i64 0) := (an_ BK472.out 0).trans rfl; have hcz121_1 : w118.cell? ⟨gb472, 1, none⟩ = some (.int .i64 0) := (an_ BK472.out 1).trans rfl; have hcz121_2 : w118.cell? ⟨gb472, 2, none⟩ = some (.slice none 0 0) := (an_ BK472.out 2).trans rfl; have hfz121_0 := am_ BK472.out 0; have hfz121_1 := am_ BK472.out 1; have hfz121_2 := am_ BK472.out 2))
                  refine bodyPost_ret (results_ct rfl _ _ gb472 62 #[.int .i64 ((rd_T62 l0_2 1).f0), .int .i64 ((rd_T62 l0_2 1).f1), .slice A498_2 ((rd_T62 l0_2 1).f2).length c498_2] (0, 0) _ rfl (by (with_reducible repeat (first | refine ac_ ?_ _ | refine ae_ ?_ | refine ad_ ?_ _)); refine blk_put (cs := #[.int .i64 ((rd_T62 l0_2 1).f0), .int .i64 ((rd_T62 l0_2 1).f1), .slice none 0 0]) ?_ 2 _ rfl; (with_reducible repeat (first | refine ac_ ?_ _ | refine ae_ ?_ | refine ad_ ?_ _)); refine blk_put (cs := #[.int .i64 ((rd_T62 l0_2 1).f0), .int .i64 0, .slice none 0 0]) ?_ 1 _ rfl; (with_reducible repeat (first | refine ac_ ?_ _ | refine ae_ ?_ | refine ad_ ?_ _)); refine blk_put (cs := #[.int .i64 0, .int .i64 0, .slice none 0 0]) ?_ 0 _ rfl; (with_reducible repeat (first | refine ac_ ?_ _ | refine ae_ ?_ | refine ad_ ?_ _)); exact BK472.out) Try.underlying62 rfl (by kernel_rfl)) rfl ?_
                  exact ⟨_, by first | rfl | (simp [errW_none, errW_some] <;> rfl) | (simp [*, errW_none, errW_some] <;> rfl), by (with_reducible repeat (first | apply Kd.V_alloc | apply Kd.V_drewN | apply Kd.V_drew)); exact Kd.V_mono (Kd.V_far (p := ⟨gb472, 2, none⟩) (Kd.V_far (p := ⟨gb472, 1, none⟩) (Kd.V_far (p := ⟨gb472, 0, none⟩) (Kd.V_mono HL498_2.out (fun k_ hk => (⟨hk, hk.2⟩ : _ ∧ k_ ≠ gb472))) (fun _ hk => hk.2) (.int .i64 ((rd_T62 l0_2 1).f0))) (fun _ hk => hk.2) (.int .i64 ((rd_T62 l0_2 1).f1))) (fun _ hk => hk.2) (.slice A498_2 ((rd_T62 l0_2 1).f2).length c498_2)) (fun _ hk => hk.1.1.1), by repeat (first | (with_reducible first | exact HB.out | apply ai_ | apply ag_ | apply ah_ | refine af_ ?_ GE471.out | refine af_ ?_ GE472.out) | exact HB.out)⟩
                · rw [if_neg c116] at H
                  exact absurd H (by simp)
              · rw [if_neg c115] at H
                have c115b0 : (((rd_T62 l0_2 0).f1) == 0) = false := beq_eq_false_iff_ne.mpr c115
                have c115b1 : (((rd_T62 l0_2 0).f1) != 0) = true := bne_iff_ne.mpr c115
                by_cases c122 : 2 < (l0_2.length : Int)
                · rw [if_pos c122] at H
                  have c122b0 : decide (2 < (l0_2.length : Int)) = true := ao_ c122
                  have c122b1 : decide (2 < l0_2.length) = true := ao_ (by omega)
                  clear c122
                  simp only [Option.some.injEq, Prod.mk.injEq] at H
                  obtain ⟨rfl, rfl, rfl, rfl⟩ := H
                  go_enter Try.func108, Try.ntmps108
                  go_wp2_with (first | ((with_reducible refine gate_dst (N := 1) rfl ?_); refine box_event ?hg (N := 1) ?hd (cs := #[.int .i64 a0_0, .int .i64 a0_1, .slice A0_2 l0_2.length c0_2]) (t := 62) ?hr ?_; (case hd => rfl); (case hg => rfl); (case hr => first | (go_simp; done) | (go_simp; rfl)); intro gb471 hg w123 hbox hb; have n0_ := ab_ (Kd.V_below (Kd.V_elderB (by (with_reducible repeat (first | apply Kd.V_alloc | apply Kd.V_drewN | apply Kd.V_drew)); exact HO0_2.out) gb471 (Nat.le_of_eq hg.symm)) hb); have n1_ := ab_ (ap_ (by repeat (first | (with_reducible first | exact HB.out | apply ai_ | apply ag_ | apply ah_) | exact HB.out)) hb); have n2_ := ab_ (hbox); have n3_ := ab_ ((by rw [hg]; exact (below_size (by repeat (first | (with_reducible first | exact HB.out | apply ai_ | apply ag_ | apply ah_) | exact HB.out))) : w.heap.size ≤ gb471)); have n4_ := ab_ ((by rw [hg]; exact (below_size (by repeat (first | (with_reducible first | exact HB.out | apply ai_ | apply ag_ | apply ah_) | exact HB.out))) : w.heap.size ≤ gb471)); clear HO0_2; clear HB; have HO0_2 := n0_; have HB := n1_; have BK471 := n2_; have GW471 := n3_; have GE471 := n4_; clear n0_ n1_ n2_ n3_ n4_; clear hb hbox hg) | ((with_reducible refine gate_dst (N := 2) rfl ?_); refine box_event ?hg (N := 2) ?hd (cs := #[.int .i64 0, .int .i64 0, .slice none 0 0]) (t := 62) ?hr ?_; (case hd => rfl); (case hg => rfl); (case hr => first | (go_simp; done) | (go_simp; rfl)); intro gb472 hg w124 hbox hb; have n0_ := ab_ (Kd.V_below (Kd.V_elderB (by (with_reducible repeat (first | apply Kd.V_alloc | apply Kd.V_drewN | apply Kd.V_drew)); exact HO0_2.out) gb472 (Nat.le_of_eq hg.symm)) hb); have n1_ := ab_ (blk_below (g := gb471) (o := .cells #[.int .i64 a0_0, .int .i64 a0_1, .slice A0_2 l0_2.length c0_2] 62 (0, 0)) (by (with_reducible repeat (first | refine ac_ ?_ _ | refine ae_ ?_ | refine ad_ ?_ _)); exact BK471.out) hb); have n2_ := ab_ (ap_ (by repeat (first | (with_reducible first | exact HB.out | apply ai_ | apply ag_ | apply ah_ | refine af_ ?_ GE471.out) | exact HB.out)) hb); have n3_ := ab_ (hbox); have n4_ := ab_ ((by rw [hg]; exact (below_size (by repeat (first | (with_reducible first | exact HB.out | apply ai_ | apply ag_ | apply ah_ | refine af_ ?_ GE471.out) | exact HB.out))) : w.heap.size ≤ gb472)); have n5_ := ab_ ((by rw [hg]; exact (below_size (by repeat (first | (with_reducible first | exact HB.out | apply ai_ | apply ag_ | apply ah_ | refine af_ ?_ GE471.out) | exact HB.out))) : w.heap.size ≤ gb472)); have n6_ := ab_ ((by rw [hg]; exact ak_ (blk_lt (g := gb471) (o := .cells #[.int .i64 a0_0, .int .i64 a0_1, .slice A0_2 l0_2.length c0_2] 62 (0, 0)) (by (with_reducible repeat (first | refine ac_ ?_ _ | refine ae_ ?_ | refine ad_ ?_ _)); exact BK471.out)) : gb471 ≠ gb472)); have n7_ := ab_ ((by rw [hg]; exact Nat.ne_of_gt (blk_lt (g := gb471) (o := .cells #[.int .i64 a0_0, .int .i64 a0_1, .slice A0_2 l0_2.length c0_2] 62 (0, 0)) (by (with_reducible repeat (first | refine ac_ ?_ _ | refine ae_ ?_ | refine ad_ ?_ _)); exact BK471.out)) : gb472 ≠ gb471)); clear HO0_2; clear BK471; clear HB; have HO0_2 := n0_; have BK471 := n1_; have HB := n2_; have BK472 := n3_; have GW472 := n4_; have GE472 := n5_; have NB471_472 := n6_; have NB472_471 := n7_; clear n0_ n1_ n2_ n3_ n4_ n5_ n6_ n7_; clear hb hbox hg; have hnb125 := NB471_472.out; have hnc125 := NB472_471.out; have hcz126_0 : w124.cell? ⟨gb471, 0, none⟩ = some (.int .i64 a0_0) := (an_ BK471.out 0).trans rfl; have hcz126_1 : w124.cell? ⟨gb471, 1, none⟩ = some (.int .i64 a0_1) := (an_ BK471.out 1).trans rfl; have hcz126_2 : w124.cell? ⟨gb471, 2, none⟩ = some (.slice A0_2 l0_2.length c0_2) := (an_ BK471.out 2).trans rfl; have hfz126_0 := am_ BK471.out 0; have hfz126_1 := am_ BK471.out 1; have hfz126_2 := am_ BK471.out 2; have p496 : 0 ≤ (0 : Int) := (by omega); have q496 : 0 < (l0_2.length : Int) := of_decide_eq_true (by first | (with_reducible assumption) | assumption); obtain ⟨ad496, A496_2, c496_2, e496, hx496_0, hx496_1, hx496_2, hl496_2, hi496_2⟩ := at_T62 (Kd.V_reads' HO0_2.out).2.2 0 p496 q496; cases e496; obtain ⟨ce496, hce496, hMe496, hcc496⟩ := Kd.V_get HO0_2.out z62 0 p496 (by first | exact q496 | exact of_decide_eq_true (by first | (with_reducible assumption) | assumption) | (have e_ := (Kd.V_reads' HO0_2.out).1; omega)); obtain ⟨ua496_2, uc496_2, rfl, ul496_2, ge496_2⟩ := k62_openF hMe496; have hv496_2 := hcc496 2 _ rfl; rw [add_field _ _ 2 (by omega)] at hv496_2; replace hv496_2 := Option.some.inj (hv496_2.symm.trans hx496_2); injection hv496_2 with hva_ hvn_ hvc_; rw [hva_] at ge496_2; rw [hvc_] at ul496_2; have HL496_2 := ab_ (show Kd.V k62 62 _ w.heap.size _ _ ((rd_T62 l0_2 0).f2) from Kd.V_mk ul496_2 ge496_2); clear hva_ hvn_ hvc_ ge496_2 ul496_2; clear hcc496 hce496; have qi496 : (0 < l0_2.length) = True := eq_true (by omega); (try rw [show ((0 : Int)).toNat = 0 from rfl] at hx496_0); (try rw [show 0 * 3 = 0 from rfl] at hx496_0); (try rw [Addr.add_zero'] at hx496_0); (try rw [show ((0 : Int)).toNat = 0 from rfl] at hx496_1); (try rw [show 0 * 3 = 0 from rfl] at hx496_1); (try rw [Addr.add_zero'] at hx496_1); (try rw [show ((0 : Int)).toNat = 0 from rfl] at hx496_2); (try rw [show 0 * 3 = 0 from rfl] at hx496_2); (try rw [Addr.add_zero'] at hx496_2); have HR496_2 := ab_ hi496_2; have HC496_2 := ab_ hl496_2; clear hi496_2 hl496_2; replace p496 := eq_true p496; replace q496 := eq_true q496; have p497 : 0 ≤ (0 : Int) := (by omega); have q497 : 0 < (l0_2.length : Int) := of_decide_eq_true (by first | (with_reducible assumption) | assumption); obtain ⟨ad497, A497_2, c497_2, e497, hx497_0, hx497_1, hx497_2, hl497_2, hi497_2⟩ := at_T62 (Kd.V_reads' HO0_2.out).2.2 0 p497 q497; obtain rfl : ad496 = ad497 := (by injection e497); obtain ⟨ce497, hce497, hMe497, hcc497⟩ := Kd.V_get HO0_2.out z62 0 p497 (by first | exact q497 | exact of_decide_eq_true (by first | (with_reducible assumption) | assumption) | (have e_ := (Kd.V_reads' HO0_2.out).1; omega)); obtain ⟨ua497_2, uc497_2, rfl, ul497_2, ge497_2⟩ := k62_openF hMe497; have hv497_2 := hcc497 2 _ rfl; rw [add_field _ _ 2 (by omega)] at hv497_2; replace hv497_2 := Option.some.inj (hv497_2.symm.trans hx497_2); injection hv497_2 with hva_ hvn_ hvc_; rw [hva_] at ge497_2; rw [hvc_] at ul497_2; have HL497_2 := ab_ (show Kd.V k62 62 _ w.heap.size _ _ ((rd_T62 l0_2 0).f2) from Kd.V_mk ul497_2 ge497_2); clear hva_ hvn_ hvc_ ge497_2 ul497_2; clear hcc497 hce497; have qi497 : (0 < l0_2.length) = True := eq_true (by omega); (try rw [show ((0 : Int)).toNat = 0 from rfl] at hx497_0); (try rw [show 0 * 3 = 0 from rfl] at hx497_0); (try rw [Addr.add_zero'] at hx497_0); (try rw [show ((0 : Int)).toNat = 0 from rfl] at hx497_1); (try rw [show 0 * 3 = 0 from rfl] at hx497_1); (try rw [Addr.add_zero'] at hx497_1); (try rw [show ((0 : Int)).toNat = 0 from rfl] at hx497_2); (try rw [show 0 * 3 = 0 from rfl] at hx497_2); (try rw [Addr.add_zero'] at hx497_2); have HR497_2 := ab_ hi497_2; have HC497_2 := ab_ hl497_2; clear hi497_2 hl497_2; replace p497 := eq_true p497; replace q497 := eq_true q497; have ea_ := Option.some.inj (hx496_2.symm.trans hx497_2); injection ea_ with ea_ en_ ec_; subst ea_; subst ec_; clear en_; have p499 : 0 ≤ (2 : Int) := (by omega); have q499 : 2 < (l0_2.length : Int) := of_decide_eq_true (by first | (with_reducible assumption) | assumption); obtain ⟨ad499, A499_2, c499_2, e499, hx499_0, hx499_1, hx499_2, hl499_2, hi499_2⟩ := at_T62 (Kd.V_reads' HO0_2.out).2.2 2 p499 q499; obtain rfl : ad496 = ad499 := (by injection e499); obtain ⟨ce499, hce499, hMe499, hcc499⟩ := Kd.V_get HO0_2.out z62 2 p499 (by first | exact q499 | exact of_decide_eq_true (by first | (with_reducible assumption) | assumption) | (have e_ := (Kd.V_reads' HO0_2.out).1; omega)); obtain ⟨ua499_2, uc499_2, rfl, ul499_2, ge499_2⟩ := k62_openF hMe499; have hv499_2 := hcc499 2 _ rfl; rw [add_field _ _ 2 (by omega)] at hv499_2; replace hv499_2 := Option.some.inj (hv499_2.symm.trans hx499_2); injection hv499_2 with hva_ hvn_ hvc_; rw [hva_] at ge499_2; rw [hvc_] at ul499_2; have HL499_2 := ab_ (show Kd.V k62 62 _ w.heap.size _ _ ((rd_T62 l0_2 2).f2) from Kd.V_mk ul499_2 ge499_2); clear hva_ hvn_ hvc_ ge499_2 ul499_2; clear hcc499 hce499; (try simp only [show (2 : Int).toNat = 2 from rfl, Nat.reduceMul, Nat.reduceEqDiff, Go.Addr.add, ↓reduceIte] at hx499_0); (try simp only [show (2 : Int).toNat = 2 from rfl, Nat.reduceMul, Nat.reduceEqDiff, Go.Addr.add, ↓reduceIte] at hx499_1); (try simp only [show (2 : Int).toNat = 2 from rfl, Nat.reduceMul, Nat.reduceEqDiff, Go.Addr.add, ↓reduceIte] at hx499_2); have qi499 : (2 < l0_2.length) = True := eq_true (by omega); (try rw [show ((2 : Int)).toNat = 2 from rfl] at hx499_0); (try rw [show 2 * 3 = 6 from rfl] at hx499_0); (try rw [show ((2 : Int)).toNat = 2 from rfl] at hx499_1); (try rw [show 2 * 3 = 6 from rfl] at hx499_1); (try rw [show ((2 : Int)).toNat = 2 from rfl] at hx499_2); (try rw [show 2 * 3 = 6 from rfl] at hx499_2); have HR499_2 := ab_ hi499_2; have HC499_2 := ab_ hl499_2; clear hi499_2 hl499_2; replace p499 := eq_true p499; replace q499 := eq_true q499; have hcz127_0 : w124.cell? ⟨gb472, 0, none⟩ = some (.int .i64 0) := (an_ BK472.out 0).trans rfl; have hcz127_1 : w124.cell? ⟨gb472, 1, none⟩ = some (.int .i64 0) := (an_ BK472.out 1).trans rfl; have hcz127_2 : w124.cell? ⟨gb472, 2, none⟩ = some (.slice none 0 0) := (an_ BK472.out 2).trans rfl; have hfz127_0 := am_ BK472.out 0; have hfz127_1 := am_ BK472.out 1; have hfz127_2 := am_ BK472.out 2))
                  refine bodyPost_ret (results_ct rfl _ _ gb472 62 #[.int .i64 ((rd_T62 l0_2 2).f0), .int .i64 ((rd_T62 l0_2 2).f1), .slice A499_2 ((rd_T62 l0_2 2).f2).length c499_2] (0, 0) _ rfl (by (with_reducible repeat (first | refine ac_ ?_ _ | refine ae_ ?_ | refine ad_ ?_ _)); refine blk_put (cs := #[.int .i64 ((rd_T62 l0_2 2).f0), .int .i64 ((rd_T62 l0_2 2).f1), .slice none 0 0]) ?_ 2 _ rfl; (with_reducible repeat (first | refine ac_ ?_ _ | refine ae_ ?_ | refine ad_ ?_ _)); refine blk_put (cs := #[.int .i64 ((rd_T62 l0_2 2).f0), .int .i64 0, .slice none 0 0]) ?_ 1 _ rfl; (with_reducible repeat (first | refine ac_ ?_ _ | refine ae_ ?_ | refine ad_ ?_ _)); refine blk_put (cs := #[.int .i64 0, .int .i64 0, .slice none 0 0]) ?_ 0 _ rfl; (with_reducible repeat (first | refine ac_ ?_ _ | refine ae_ ?_ | refine ad_ ?_ _)); exact BK472.out) Try.underlying62 rfl (by kernel_rfl)) rfl ?_
                  exact ⟨_, by first | rfl | (simp [errW_none, errW_some] <;> rfl) | (simp [*, errW_none, errW_some] <;> rfl), by (with_reducible repeat (first | apply Kd.V_alloc | apply Kd.V_drewN | apply Kd.V_drew)); exact Kd.V_mono (Kd.V_far (p := ⟨gb472, 2, none⟩) (Kd.V_far (p := ⟨gb472, 1, none⟩) (Kd.V_far (p := ⟨gb472, 0, none⟩) (Kd.V_mono HL499_2.out (fun k_ hk => (⟨hk, hk.2⟩ : _ ∧ k_ ≠ gb472))) (fun _ hk => hk.2) (.int .i64 ((rd_T62 l0_2 2).f0))) (fun _ hk => hk.2) (.int .i64 ((rd_T62 l0_2 2).f1))) (fun _ hk => hk.2) (.slice A499_2 ((rd_T62 l0_2 2).f2).length c499_2)) (fun _ hk => hk.1.1.1), by repeat (first | (with_reducible first | exact HB.out | apply ai_ | apply ag_ | apply ah_ | refine af_ ?_ GE471.out | refine af_ ?_ GE472.out) | exact HB.out)⟩
                · rw [if_neg c122] at H
                  exact absurd H (by simp)
            · rw [if_neg c114] at H
              have c114b0 : (((rd_T62 l0_2 0).f0) == 2) = false := beq_eq_false_iff_ne.mpr c114
              have c114b1 : (((rd_T62 l0_2 0).f0) != 2) = true := bne_iff_ne.mpr c114
              simp only [Option.some.injEq, Prod.mk.injEq] at H
              obtain ⟨rfl, rfl, rfl, rfl⟩ := H
              go_enter Try.func108, Try.ntmps108
              go_wp2_with (first | ((with_reducible refine gate_dst (N := 1) rfl ?_); refine box_event ?hg (N := 1) ?hd (cs := #[.int .i64 a0_0, .int .i64 a0_1, .slice A0_2 l0_2.length c0_2]) (t := 62) ?hr ?_; (case hd => rfl); (case hg => rfl); (case hr => first | (go_simp; done) | (go_simp; rfl)); intro gb471 hg w128 hbox hb; have n0_ := ab_ (Kd.V_below (Kd.V_elderB (by (with_reducible repeat (first | apply Kd.V_alloc | apply Kd.V_drewN | apply Kd.V_drew)); exact HO0_2.out) gb471 (Nat.le_of_eq hg.symm)) hb); have n1_ := ab_ (ap_ (by repeat (first | (with_reducible first | exact HB.out | apply ai_ | apply ag_ | apply ah_) | exact HB.out)) hb); have n2_ := ab_ (hbox); have n3_ := ab_ ((by rw [hg]; exact (below_size (by repeat (first | (with_reducible first | exact HB.out | apply ai_ | apply ag_ | apply ah_) | exact HB.out))) : w.heap.size ≤ gb471)); have n4_ := ab_ ((by rw [hg]; exact (below_size (by repeat (first | (with_reducible first | exact HB.out | apply ai_ | apply ag_ | apply ah_) | exact HB.out))) : w.heap.size ≤ gb471)); clear HO0_2; clear HB; have HO0_2 := n0_; have HB := n1_; have BK471 := n2_; have GW471 := n3_; have GE471 := n4_; clear n0_ n1_ n2_ n3_ n4_; clear hb hbox hg) | ((with_reducible refine gate_dst (N := 2) rfl ?_); refine box_event ?hg (N := 2) ?hd (cs := #[.int .i64 0, .int .i64 0, .slice none 0 0]) (t := 62) ?hr ?_; (case hd => rfl); (case hg => rfl); (case hr => first | (go_simp; done) | (go_simp; rfl)); intro gb472 hg w129 hbox hb; have n0_ := ab_ (Kd.V_below (Kd.V_elderB (by (with_reducible repeat (first | apply Kd.V_alloc | apply Kd.V_drewN | apply Kd.V_drew)); exact HO0_2.out) gb472 (Nat.le_of_eq hg.symm)) hb); have n1_ := ab_ (blk_below (g := gb471) (o := .cells #[.int .i64 a0_0, .int .i64 a0_1, .slice A0_2 l0_2.length c0_2] 62 (0, 0)) (by (with_reducible repeat (first | refine ac_ ?_ _ | refine ae_ ?_ | refine ad_ ?_ _)); exact BK471.out) hb); have n2_ := ab_ (ap_ (by repeat (first | (with_reducible first | exact HB.out | apply ai_ | apply ag_ | apply ah_ | refine af_ ?_ GE471.out) | exact HB.out)) hb); have n3_ := ab_ (hbox); have n4_ := ab_ ((by rw [hg]; exact (below_size (by repeat (first | (with_reducible first | exact HB.out | apply ai_ | apply ag_ | apply ah_ | refine af_ ?_ GE471.out) | exact HB.out))) : w.heap.size ≤ gb472)); have n5_ := ab_ ((by rw [hg]; exact (below_size (by repeat (first | (with_reducible first | exact HB.out | apply ai_ | apply ag_ | apply ah_ | refine af_ ?_ GE471.out) | exact HB.out))) : w.heap.size ≤ gb472)); have n6_ := ab_ ((by rw [hg]; exact ak_ (blk_lt (g := gb471) (o := .cells #[.int .i64 a0_0, .int .i64 a0_1, .slice A0_2 l0_2.length c0_2] 62 (0, 0)) (by (with_reducible repeat (first | refine ac_ ?_ _ | refine ae_ ?_ | refine ad_ ?_ _)); exact BK471.out)) : gb471 ≠ gb472)); have n7_ := ab_ ((by rw [hg]; exact Nat.ne_of_gt (blk_lt (g := gb471) (o := .cells #[.int .i64 a0_0, .int .i64 a0_1, .slice A0_2 l0_2.length c0_2] 62 (0, 0)) (by (with_reducible repeat (first | refine ac_ ?_ _ | refine ae_ ?_ | refine ad_ ?_ _)); exact BK471.out)) : gb472 ≠ gb471)); clear HO0_2; clear BK471; clear HB; have HO0_2 := n0_; have BK471 := n1_; have HB := n2_; have BK472 := n3_; have GW472 := n4_; have GE472 := n5_; have NB471_472 := n6_; have NB472_471 := n7_; clear n0_ n1_ n2_ n3_ n4_ n5_ n6_ n7_; clear hb hbox hg; have hnb130 := NB471_472.out; have hnc130 := NB472_471.out; have hcz131_0 : w129.cell? ⟨gb471, 0, none⟩ = some (.int .i64 a0_0) := (an_ BK471.out 0).trans rfl; have hcz131_1 : w129.cell? ⟨gb471, 1, none⟩ = some (.int .i64 a0_1) := (an_ BK471.out 1).trans rfl; have hcz131_2 : w129.cell? ⟨gb471, 2, none⟩ = some (.slice A0_2 l0_2.length c0_2) := (an_ BK471.out 2).trans rfl; have hfz131_0 := am_ BK471.out 0; have hfz131_1 := am_ BK471.out 1; have hfz131_2 := am_ BK471.out 2; have p496 : 0 ≤ (0 : Int) := (by omega); have q496 : 0 < (l0_2.length : Int) := of_decide_eq_true (by first | (with_reducible assumption) | assumption); obtain ⟨ad496, A496_2, c496_2, e496, hx496_0, hx496_1, hx496_2, hl496_2, hi496_2⟩ := at_T62 (Kd.V_reads' HO0_2.out).2.2 0 p496 q496; cases e496; obtain ⟨ce496, hce496, hMe496, hcc496⟩ := Kd.V_get HO0_2.out z62 0 p496 (by first | exact q496 | exact of_decide_eq_true (by first | (with_reducible assumption) | assumption) | (have e_ := (Kd.V_reads' HO0_2.out).1; omega)); obtain ⟨ua496_2, uc496_2, rfl, ul496_2, ge496_2⟩ := k62_openF hMe496; have hv496_2 := hcc496 2 _ rfl; rw [add_field _ _ 2 (by omega)] at hv496_2; replace hv496_2 := Option.some.inj (hv496_2.symm.trans hx496_2); injection hv496_2 with hva_ hvn_ hvc_; rw [hva_] at ge496_2; rw [hvc_] at ul496_2; have HL496_2 := ab_ (show Kd.V k62 62 _ w.heap.size _ _ ((rd_T62 l0_2 0).f2) from Kd.V_mk ul496_2 ge496_2); clear hva_ hvn_ hvc_ ge496_2 ul496_2; clear hcc496 hce496; have qi496 : (0 < l0_2.length) = True := eq_true (by omega); (try rw [show ((0 : Int)).toNat = 0 from rfl] at hx496_0); (try rw [show 0 * 3 = 0 from rfl] at hx496_0); (try rw [Addr.add_zero'] at hx496_0); (try rw [show ((0 : Int)).toNat = 0 from rfl] at hx496_1); (try rw [show 0 * 3 = 0 from rfl] at hx496_1); (try rw [Addr.add_zero'] at hx496_1); (try rw [show ((0 : Int)).toNat = 0 from rfl] at hx496_2); (try rw [show 0 * 3 = 0 from rfl] at hx496_2); (try rw [Addr.add_zero'] at hx496_2); have HR496_2 := ab_ hi496_2; have HC496_2 := ab_ hl496_2; clear hi496_2 hl496_2; replace p496 := eq_true p496; replace q496 := eq_true q496; have hcz132_0 : w129.cell? ⟨gb472, 0, none⟩ = some (.int .i64 0) := (an_ BK472.out 0).trans rfl; have hcz132_1 : w129.cell? ⟨gb472, 1, none⟩ = some (.int .i64 0) := (an_ BK472.out 1).trans rfl; have hcz132_2 : w129.cell? ⟨gb472, 2, none⟩ = some (.slice none 0 0) := (an_ BK472.out 2).trans rfl; have hfz132_0 := am_ BK472.out 0; have hfz132_1 := am_ BK472.out 1; have hfz132_2 := am_ BK472.out 2))
              refine bodyPost_ret (results_ct rfl _ _ gb472 62 #[.int .i64 0, .int .i64 0, .slice none 0 0] (0, 0) _ rfl (by (with_reducible repeat (first | refine ac_ ?_ _ | refine ae_ ?_ | refine ad_ ?_ _)); refine blk_put (cs := #[.int .i64 0, .int .i64 0, .slice none 0 0]) ?_ 2 _ rfl; (with_reducible repeat (first | refine ac_ ?_ _ | refine ae_ ?_ | refine ad_ ?_ _)); refine blk_put (cs := #[.int .i64 0, .int .i64 0, .slice none 0 0]) ?_ 1 _ rfl; (with_reducible repeat (first | refine ac_ ?_ _ | refine ae_ ?_ | refine ad_ ?_ _)); refine blk_put (cs := #[.int .i64 0, .int .i64 0, .slice none 0 0]) ?_ 0 _ rfl; (with_reducible repeat (first | refine ac_ ?_ _ | refine ae_ ?_ | refine ad_ ?_ _)); exact BK472.out) Try.underlying62 rfl (by kernel_rfl)) rfl ?_
              exact ⟨_, by first | rfl | (simp [errW_none, errW_some] <;> rfl) | (simp [*, errW_none, errW_some] <;> rfl), (by exact Kd.V_nil _ _ _ _ _), by repeat (first | (with_reducible first | exact HB.out | apply ai_ | apply ag_ | apply ah_ | refine af_ ?_ GE471.out | refine af_ ?_ GE472.out) | exact HB.out)⟩
          · rw [if_neg c113] at H
            exact absurd H (by simp)
        · rw [if_neg c112] at H
          have c112b0 : (a0_0 == 6) = false := beq_eq_false_iff_ne.mpr c112
          have c112b1 : (a0_0 != 6) = true := bne_iff_ne.mpr c112
          simp only [Option.some.injEq, Prod.mk.injEq] at H
          obtain ⟨rfl, rfl, rfl, rfl⟩ := H
          go_enter Try.func108, Try.ntmps108
          go_wp2_with (first | ((with_reducible refine gate_dst (N := 1) rfl ?_); refine box_event ?hg (N := 1) ?hd (cs := #[.int .i64 a0_0, .int .i64 a0_1, .slice A0_2 l0_2.length c0_2]) (t := 62) ?hr ?_; (case hd => rfl); (case hg => rfl); (case hr => first | (go_simp; done) | (go_simp; rfl)); intro gb471 hg w133 hbox hb; have n0_ := ab_ (Kd.V_below (Kd.V_elderB (by (with_reducible repeat (first | apply Kd.V_alloc | apply Kd.V_drewN | apply Kd.V_drew)); exact HO0_2.out) gb471 (Nat.le_of_eq hg.symm)) hb); have n1_ := ab_ (ap_ (by repeat (first | (with_reducible first | exact HB.out | apply ai_ | apply ag_ | apply ah_) | exact HB.out)) hb); have n2_ := ab_ (hbox); have n3_ := ab_ ((by rw [hg]; exact (below_size (by repeat (first | (with_reducible first | exact HB.out | apply ai_ | apply ag_ | apply ah_) | exact HB.out))) : w.heap.size ≤ gb471)); have n4_ := ab_ ((by rw [hg]; exact (below_size (by repeat (first | (with_reducible first | exact HB.out | apply ai_ | apply ag_ | apply ah_) | exact HB.out))) : w.heap.size ≤ gb471)); clear HO0_2; clear HB; have HO0_2 := n0_; have HB := n1_; have BK471 := n2_; have GW471 := n3_; have GE471 := n4_; clear n0_ n1_ n2_ n3_ n4_; clear hb hbox hg) | ((with_reducible refine gate_dst (N := 2) rfl ?_); refine box_event ?hg (N := 2) ?hd (cs := #[.int .i64 0, .int .i64 0, .slice none 0 0]) (t := 62) ?hr ?_; (case hd => rfl); (case hg => rfl); (case hr => first | (go_simp; done) | (go_simp; rfl)); intro gb472 hg w134 hbox hb; have n0_ := ab_ (Kd.V_below (Kd.V_elderB (by (with_reducible repeat (first | apply Kd.V_alloc | apply Kd.V_drewN | apply Kd.V_drew)); exact HO0_2.out) gb472 (Nat.le_of_eq hg.symm)) hb); have n1_ := ab_ (blk_below (g := gb471) (o := .cells #[.int .i64 a0_0, .int .i64 a0_1, .slice A0_2 l0_2.length c0_2] 62 (0, 0)) (by (with_reducible repeat (first | refine ac_ ?_ _ | refine ae_ ?_ | refine ad_ ?_ _)); exact BK471.out) hb); have n2_ := ab_ (ap_ (by repeat (first | (with_reducible first | exact HB.out | apply ai_ | apply ag_ | apply ah_ | refine af_ ?_ GE471.out) | exact HB.out)) hb); have n3_ := ab_ (hbox); have n4_ := ab_ ((by rw [hg]; exact (below_size (by repeat (first | (with_reducible first | exact HB.out | apply ai_ | apply ag_ | apply ah_ | refine af_ ?_ GE471.out) | exact HB.out))) : w.heap.size ≤ gb472)); have n5_ := ab_ ((by rw [hg]; exact (below_size (by repeat (first | (with_reducible first | exact HB.out | apply ai_ | apply ag_ | apply ah_ | refine af_ ?_ GE471.out) | exact HB.out))) : w.heap.size ≤ gb472)); have n6_ := ab_ ((by rw [hg]; exact ak_ (blk_lt (g := gb471) (o := .cells #[.int .i64 a0_0, .int .i64 a0_1, .slice A0_2 l0_2.length c0_2] 62 (0, 0)) (by (with_reducible repeat (first | refine ac_ ?_ _ | refine ae_ ?_ | refine ad_ ?_ _)); exact BK471.out)) : gb471 ≠ gb472)); have n7_ := ab_ ((by rw [hg]; exact Nat.ne_of_gt (blk_lt (g := gb471) (o := .cells #[.int .i64 a0_0, .int .i64 a0_1, .slice A0_2 l0_2.length c0_2] 62 (0, 0)) (by (with_reducible repeat (first | refine ac_ ?_ _ | refine ae_ ?_ | refine ad_ ?_ _)); exact BK471.out)) : gb472 ≠ gb471)); clear HO0_2; clear BK471; clear HB; have HO0_2 := n0_; have BK471 := n1_; have HB := n2_; have BK472 := n3_; have GW472 := n4_; have GE472 := n5_; have NB471_472 := n6_; have NB472_471 := n7_; clear n0_ n1_ n2_ n3_ n4_ n5_ n6_ n7_; clear hb hbox hg; have hnb135 := NB471_472.out; have hnc135 := NB472_471.out; have hcz136_0 : w134.cell? ⟨gb471, 0, none⟩ = some (.int .i64 a0_0) := (an_ BK471.out 0).trans rfl; have hcz136_1 : w134.cell? ⟨gb471, 1, none⟩ = some (.int .i64 a0_1) := (an_ BK471.out 1).trans rfl; have hcz136_2 : w134.cell? ⟨gb471, 2, none⟩ = some (.slice A0_2 l0_2.length c0_2) := (an_ BK471.out 2).trans rfl; have hfz136_0 := am_ BK471.out 0; have hfz136_1 := am_ BK471.out 1; have hfz136_2 := am_ BK471.out 2; have hcz137_0 : w134.cell? ⟨gb472, 0, none⟩ = some (.int .i64 0) := (an_ BK472.out 0).trans rfl; have hcz137_1 : w134.cell? ⟨gb472, 1, none⟩ = some (.int .i64 0) := (an_ BK472.out 1).trans rfl; have hcz137_2 : w134.cell? ⟨gb472, 2, none⟩ = some (.slice none 0 0) := (an_ BK472.out 2).trans rfl; have hfz137_0 := am_ BK472.out 0; have hfz137_1 := am_ BK472.out 1; have hfz137_2 := am_ BK472.out 2))
          refine bodyPost_ret (results_ct rfl _ _ gb472 62 #[.int .i64 0, .int .i64 0, .slice none 0 0] (0, 0) _ rfl (by (with_reducible repeat (first | refine ac_ ?_ _ | refine ae_ ?_ | refine ad_ ?_ _)); refine blk_put (cs := #[.int .i64 0, .int .i64 0, .slice none 0 0]) ?_ 2 _ rfl; (with_reducible repeat (first | refine ac_ ?_ _ | refine ae_ ?_ | refine ad_ ?_ _)); refine blk_put (cs := #[.int .i64 0, .int .i64 0, .slice none 0 0]) ?_ 1 _ rfl; (with_reducible repeat (first | refine ac_ ?_ _ | refine ae_ ?_ | refine ad_ ?_ _)); refine blk_put (cs := #[.int .i64 0, .int .i64 0, .slice none 0 0]) ?_ 0 _ rfl; (with_reducible repeat (first | refine ac_ ?_ _ | refine ae_ ?_ | refine ad_ ?_ _)); exact BK472.out) Try.underlying62 rfl (by kernel_rfl)) rfl ?_
          exact ⟨_, by first | rfl | (simp [errW_none, errW_some] <;> rfl) | (simp [*, errW_none, errW_some] <;> rfl), (by exact Kd.V_nil _ _ _ _ _), by repeat (first | (with_reducible first | exact HB.out | apply ai_ | apply ag_ | apply ah_ | refine af_ ?_ GE471.out | refine af_ ?_ GE472.out) | exact HB.out)⟩
end Go.Proofs.Ytgoiifpimpnlpaa.PAll

end

section
namespace Go.Proofs.Ytgoiifpimpnlpaa.PAll
open Go.RowKit Go.Proofs.YtgoiifpimpnlpaaW.PrintWords Go.Proofs.YtgoiifpimpnlpaaW.PrintLast Go.Proofs.YtgoiifpimpnlpaaW.PrintMore
set_option linter.unusedVariables false
set_option linter.unusedSimpArgs false
def small : Option Tm → Option Tm
  | none => none
  | some u => if u.cnt ≤ 600 then some u else none
theorem small_le {u : Tm} (h : u.cnt ≤ 600) : small (some u) = some u := if_pos h
theorem small_gt {u : Tm} (h : ¬ u.cnt ≤ 600) : small (some u) = none := if_neg h
def enc4 : Option Tm → Int × Int × List S62 × Bool
  | none => (0, 0, [], false)
  | some u => ((tv u).f0, (tv u).f1, (tv u).f2, true)
theorem tv_f2 (t : Tm) : (tv t).f2 = tvs t.ks := by cases t; rw [tv_f]; rfl
theorem l3Put_enc (v : Int) (hv0 : 0 ≤ v) (hv1 : v ≤ 1000) (s : Tm) (hsw : s.wf) (B : Int) (hB : B ≤ 1000000000) (hsv : s.vb B) (hsc : s.cnt ≤ 1000000) (t : Tm) (htw : t.wf) (htv : t.vb B) (htc : t.cnt ≤ 1000000) (k : Nat) (hk : 10 * t.cnt + 10 * s.cnt ≤ k) :
    spec_l3Put.f k (tv t).f0 (tv t).f1 (tv t).f2 v (tv s).f0 (tv s).f1 (tv s).f2 = some (enc4 (small (some (tsubst v s t)))) := by
  rw [l3Put_eq v hv0 hv1 s hsw B hB hsv hsc t htw htv htc k hk]
  unfold putOf small enc4
  by_cases h : (tsubst v s t).cnt ≤ 600
  · simp only [if_pos h]
  · simp only [if_neg h]
theorem contract_eq {B k n : Int} {ks : List Tm} (hr : redexB k ks = true) (hB : B ≤ 1000000000) (hwf : (Tm.mk k n ks).wf) (hwn : (Tm.mk k n ks).wn) (hvb : (Tm.mk k n ks).vb B) (hc : (Tm.mk k n ks).cnt ≤ 600) (q : Nat) (hq : 12000 ≤ q) :
    spec_l4Contract.f q k n (tvs ks) = some (enc4 (small (some (contrT k ks)))) := by
  simp only [Tm.wf] at hwf
  simp only [Tm.wn] at hwn
  rw [vb_mk] at hvb
  rw [cnt_mk] at hc
  obtain ⟨hk, hws⟩ := hwf
  have hwns := hwn.2
  have hvbs := hvb.2
  unfold spec_l4Contract.f
  by_cases h4 : k = 4
  · subst h4
    have hk2 : ks.length = 2 := by simp [arI] at hk; omega
    have ha := kid_get (ks := ks) (i := 0) (by omega)
    have hb := kid_get (ks := ks) (i := 1) (by omega)
    have ma := kid_mem (ks := ks) (i := 0) (by omega)
    have mb := kid_mem (ks := ks) (i := 1) (by omega)
    have cna := cnt_mem ma
    have cnb := cnt_mem mb
    have hka : (kid ks 0).kd = 3 := by simp [redexB, ha] at hr; exact hr
    have ea := rd62_get ks 0 _ ha
    have eb := rd62_get ks 1 _ hb
    simp only [Int.cast_ofNat_Int] at ea eb
    have wfa := wfs_get hws _ ma
    have vba := vbs_get hvbs _ ma
    rw [show contrT 4 ks = tsubst 0 (kid ks 1) (kid (kid ks 0).ks 0) by simp [contrT]]
    rw [if_pos rfl, tvs_length, if_pos (show 0 < (ks.length : Int) by omega), ea, eb, tv_f0, if_pos hka, tv_f2, tvs_length]
    obtain ⟨fa, hfa⟩ : ∃ x, x = kid ks 0 := ⟨_, rfl⟩
    rw [← hfa] at hka wfa vba cna ⊢
    cases fa with | mk ka na kas =>
    simp only [Tm.kd] at hka
    subst hka
    simp only [Tm.wf] at wfa
    rw [vb_mk] at vba
    rw [cnt_mk] at cna
    have hk1 : kas.length = 1 := by have := wfa.1; simp [arI] at this; omega
    have hd := kid_get (ks := kas) (i := 0) (by omega)
    have md := kid_mem (ks := kas) (i := 0) (by omega)
    have cnd := cnt_mem md
    have ed := rd62_get kas 0 _ hd
    simp only [Int.cast_ofNat_Int] at ed
    rw [show (Tm.mk 3 na kas).ks = kas from rfl]
    rw [if_pos (show 0 < (kas.length : Int) by omega), if_pos (show 1 < (ks.length : Int) by omega), ed, l3Put_enc 0 (by omega) (by omega) _ (wfs_get hws _ mb) B hB (vbs_get hvbs _ mb) (by omega) _ (wfs_get wfa.2 _ md) (vbs_get vba.2 _ md) (by omega) q (by omega), Option.bind_some]
  rw [if_neg h4]
  by_cases h7 : k = 7
  · subst h7
    have hk2 : ks.length = 2 := by simp [arI] at hk; omega
    have ha := kid_get (ks := ks) (i := 0) (by omega)
    have hb := kid_get (ks := ks) (i := 1) (by omega)
    have ma := kid_mem (ks := ks) (i := 0) (by omega)
    have mb := kid_mem (ks := ks) (i := 1) (by omega)
    have cna := cnt_mem ma
    have cnb := cnt_mem mb
    have ea := rd62_get ks 0 _ ha
    have eb := rd62_get ks 1 _ hb
    simp only [Int.cast_ofNat_Int] at ea eb
    rw [show contrT 7 ks = tsubst 0 (kid ks 0) (kid ks 1) by simp [contrT]]
    rw [if_pos rfl, tvs_length, if_pos (show 1 < (ks.length : Int) by omega), if_pos (show 0 < (ks.length : Int) by omega), ea, eb, l3Put_enc 0 (by omega) (by omega) _ (wfs_get hws _ ma) B hB (vbs_get hvbs _ ma) (by omega) _ (wfs_get hws _ mb) (vbs_get hvbs _ mb) (by omega) q (by omega), Option.bind_some]
  rw [if_neg h7]
  by_cases h5 : k = 5
  · subst h5
    have hk2 : ks.length = 2 := by simp [arI] at hk; omega
    have ha := kid_get (ks := ks) (i := 0) (by omega)
    have hb := kid_get (ks := ks) (i := 1) (by omega)
    have hadd : addB (kid ks 0) (kid ks 1) = true := by simpa [redexB, ha, hb] using hr
    simp only [addB, Bool.and_eq_true, decide_eq_true_eq] at hadd
    obtain ⟨k0, k1, s0, s1⟩ := hadd
    have ea := rd62_get ks 0 _ ha
    have eb := rd62_get ks 1 _ hb
    simp only [Int.cast_ofNat_Int] at ea eb
    rw [show contrT 5 ks = .mk 2 ((kid ks 0).nu + (kid ks 1).nu) [] by simp [contrT]]
    rw [if_pos rfl, tvs_length, if_pos (show 1 < (ks.length : Int) by omega), ea, eb, tv_f0, tv_f0, tv_f1, tv_f1, if_pos ⟨k0, k1, s0, s1⟩]
    simp [small, enc4, Tm.cnt, cnts, tv_f, tvs]
  rw [if_neg h5]
  have h6 : k = 6 := by
    simp only [redexB] at hr
    rw [if_neg h7, if_neg h4] at hr
    by_cases h6 : k = 6
    · exact h6
    · rw [if_neg h6, if_neg h5] at hr; cases hr
  subst h6
  have hk2 : ks.length = 3 := by simp [arI] at hk; omega
  have ha := kid_get (ks := ks) (i := 0) (by omega)
  have hka : (kid ks 0).kd = 2 := by simp [redexB, ha] at hr; exact hr
  have hb := kid_get (ks := ks) (i := 1) (by omega)
  have hcc := kid_get (ks := ks) (i := 2) (by omega)
  have cnb := cnt_mem (kid_mem (ks := ks) (i := 1) (by omega))
  have cnc := cnt_mem (kid_mem (ks := ks) (i := 2) (by omega))
  have ea := rd62_get ks 0 _ ha
  have eb := rd62_get ks 1 _ hb
  have ec := rd62_get ks 2 _ hcc
  simp only [Int.cast_ofNat_Int] at ea eb ec
  rw [show contrT 6 ks = if (kid ks 0).nu = 0 then kid ks 1 else kid ks 2 by simp [contrT]]
  rw [if_pos rfl, tvs_length, if_pos (show 0 < (ks.length : Int) by omega), ea, eb, ec, tv_f0, if_pos hka, tv_f1]
  by_cases hz : (kid ks 0).nu = 0
  · rw [if_pos hz, if_pos hz, if_pos (show 1 < (ks.length : Int) by omega)]
    rw [small_le (by omega)]
    rfl
  · rw [if_neg hz, if_neg hz, if_pos (show 2 < (ks.length : Int) by omega)]
    rw [small_le (by omega)]
    rfl
end Go.Proofs.Ytgoiifpimpnlpaa.PAll

end

section
namespace Go.Proofs.Ytgoiifpimpnlpaa.PAll
open Go.RowKit Go.Proofs.YtgoiifpimpnlpaaW.PrintWords Go.Proofs.YtgoiifpimpnlpaaW.PrintLast Go.Proofs.YtgoiifpimpnlpaaW.PrintMore
set_option linter.unusedVariables false
set_option linter.unusedSimpArgs false
def tot {α : Type} : List (List α) → Int
  | [] => 0
  | l :: ls => (l.length : Int) + tot ls
theorem tot_pos {α : Type} : ∀ (ls : List (List α)), 0 ≤ tot ls
  | [] => by simp [tot]
  | l :: ls => by have := tot_pos ls; simp only [tot]; omega
theorem tot_take {α : Type} : ∀ (ls : List (List α)) (i : Nat) (l : List α), ls[i]? = some l → tot (ls.take (i + 1)) = tot (ls.take i) + l.length
  | [], i, l, h => by simp at h
  | a :: ls, 0, l, h => by simp at h; subst h; simp [tot]
  | a :: ls, i + 1, l, h => by simp only [List.getElem?_cons_succ] at h; simp only [List.take_succ_cons, tot, tot_take ls i l h]; omega
theorem tot_take_le {α : Type} : ∀ (ls : List (List α)) (i : Nat), tot (ls.take i) ≤ tot ls
  | [], i => by simp [tot]
  | a :: ls, 0 => by have := tot_pos ls; simp only [List.take_zero, tot]; omega
  | a :: ls, i + 1 => by have := tot_take_le ls i; simp only [List.take_succ_cons, tot]; omega
theorem hwrap_id {x : Int} (h0 : -9223372036854775808 ≤ x) (h1 : x < 9223372036854775808) : wrap64 x = x := by unfold wrap64; omega
def mkrow : Nat → Int → List S66
  | 0, _ => []
  | n + 1, a => ⟨a, a + 1⟩ :: mkrow n (a + 2)
theorem mkrow_len : ∀ (n : Nat) (a : Int), (mkrow n a).length = n
  | 0, _ => rfl
  | n + 1, a => by simp [mkrow, mkrow_len n]
def mkd : List (List S66) → Int → List (List S66)
  | [], _ => []
  | l :: ls, a => mkrow l.length a :: mkd ls (a + 2 * (l.length : Int))
theorem mkd_len : ∀ (ls : List (List S66)) (a : Int), (mkd ls a).length = ls.length
  | [], _ => rfl
  | l :: ls, a => by simp [mkd, mkd_len ls]
theorem mkd_at : ∀ (ls : List (List S66)) (a : Int) (j : Nat) (l : List S66), ls[j]? = some l → (mkd ls a)[j]? = some (mkrow l.length (a + 2 * tot (ls.take j)))
  | [], a, j, l, h => by simp at h
  | x :: ls, a, 0, l, h => by simp at h; subst h; simp [mkd, tot]
  | x :: ls, a, j + 1, l, h => by
    simp only [List.getElem?_cons_succ] at h
    simp only [mkd, List.getElem?_cons_succ, List.take_succ_cons, tot]
    rw [mkd_at ls _ j l h]
    congr 2
    omega
theorem markCell_gen (n : Nat) (hn : n ≤ 1000000000) (a : Int) (h0 : 0 ≤ a) (h1 : a ≤ 1000000000000) : ∀ (d k i : Nat) (xs : List S66), xs.length = n → i + d = n → d < k → laws_markCellS.l0 k xs (a + 2 * (i : Int)) (i : Int) = some (a + 2 * (n : Int), xs.take i ++ mkrow d (a + 2 * (i : Int))) := by
  intro d
  induction d with
  | zero =>
    intro k i xs hx hi hk
    obtain ⟨k, rfl⟩ : ∃ m, k = m + 1 := ⟨k - 1, by omega⟩
    simp only [laws_markCellS.l0]
    rw [if_neg (by omega)]
    obtain rfl : i = n := by omega
    rw [List.take_of_length_le (by omega)]
    simp [mkrow]
  | succ d ih =>
    intro k i xs hx hi hk
    obtain ⟨k, rfl⟩ : ∃ m, k = m + 1 := ⟨k - 1, by omega⟩
    simp only [laws_markCellS.l0]
    rw [if_pos (by omega), if_pos (by omega), Option.bind_some, hwrap_id (x := a + 2 * (i : Int) + 1) (by omega) (by omega), hwrap_id (x := (i : Int) + 1) (by omega) (by omega), hwrap_id (by omega) (by omega)]
    have e1 : a + 2 * (i : Int) + 1 + 1 = a + 2 * ((i + 1 : Nat) : Int) := by omega
    have e2 : (i : Int) + 1 = ((i + 1 : Nat) : Int) := by omega
    have hrd : (rd_T66 (xs.set (i : Int).toNat ⟨a + 2 * (i : Int), (rd_T66 xs (i : Int)).f1⟩) (i : Int)).f0 = a + 2 * (i : Int) := by
      simp [rd_T66, List.getD_eq_getElem?_getD, List.getElem?_set_self (show i < xs.length by omega)]
    rw [hrd, e1, e2]
    rw [ih k (i + 1) _ (by simp [hx]) (by omega) (by omega), Int.toNat_natCast]
    congr 2
    rw [List.take_add_one, List.getElem?_set_self (by simp; omega), List.take_set_of_le (by omega), List.take_set_of_le (by omega)]
    simp only [mkrow, Option.toList, List.append_assoc, List.singleton_append]
    congr 3
    omega
def MkSt (ls : List (List S66)) (a : Int) (f : Nat → Nat) (ok : Nat → Prop) (g : Nat) (w0 w wr : World) (i : Nat) : Prop :=
  Below w0.heap.size w0 wr ∧ Kept w wr ok ∧ ∀ (j : Nat) (l : List S66), ls[j]? = some l → ∃ v, wr.cell? ⟨g, j, none⟩ = some v ∧ Kd.R k66 66 wr w0.heap.size (fun k => (ok k ∧ k ≠ g) ∧ f k = j) v (if i ≤ j then l else mkrow l.length (a + 2 * tot (ls.take j)))
theorem MkSt.step {ls : List (List S66)} {a : Int} {f : Nat → Nat} {ok : Nat → Prop} {g : Nat} {w0 w wr w2 : World} {i : Nat} {v : Value} {l : List S66} (h : MkSt ls a f ok g w0 w wr i) (hl : ls[i]? = some l) (hv : wr.cell? ⟨g, i, none⟩ = some v) (hnew : Kd.R k66 66 w2 w0.heap.size (fun k => ((ok k ∧ k ≠ g) ∧ f k = i) ∨ wr.heap.size ≤ k) v (mkrow l.length (a + 2 * tot (ls.take i)))) (hold : ∀ k, v.ownBlock = some k → (ok k ∧ k ≠ g) ∧ f k = i) (hb : Below w0.heap.size w0 w2) (hk : Kept wr w2 (fun k => (ok k ∧ k ≠ g) ∧ f k = i)) (hg : g < wr.heap.size) : MkSt ls a f ok g w0 w w2 (i + 1) := by
  obtain ⟨h0, h1, h2⟩ := h
  refine ⟨hb, h1.then_ hk (fun k hk => .inl hk.1.1), fun j l' hj => ?_⟩
  obtain ⟨v', hv', hr⟩ := h2 j l' hj
  refine ⟨v', cell_kept hv' hk (fun h => h.1.2 rfl), ?_⟩
  by_cases hji : j = i
  · subst hji
    rw [hv] at hv'
    obtain rfl := Option.some.inj hv'
    rw [hl] at hj
    obtain rfl := Option.some.inj hj
    rw [if_neg (by omega)]
    exact Kd.R_mono (Kd.R_tight rfl hnew) (fun k hk => hold k hk.symm)
  · have e : (if i + 1 ≤ j then l' else mkrow l'.length (a + 2 * tot (ls.take j))) = (if i ≤ j then l' else mkrow l'.length (a + 2 * tot (ls.take j))) := by
      by_cases h : i ≤ j
      · rw [if_pos h, if_pos (by omega)]
      · rw [if_neg h, if_neg (by omega)]
    rw [e]
    exact Kd.R_kept hr hk (fun k h1 h2 => hji (h1.2.symm.trans h2.2))
theorem MkSt.reads {ls : List (List S66)} {a : Int} {f : Nat → Nat} {ok : Nat → Prop} {g base : Nat} {wr : World} (hn : ls.length ≤ 1000000000) (h : ∀ (j : Nat) (l : List S66), ls[j]? = some l → ∃ v, wr.cell? ⟨g, j, none⟩ = some v ∧ Kd.R k66 66 wr base (fun k => (ok k ∧ k ≠ g) ∧ f k = j) v (if ls.length ≤ j then l else mkrow l.length (a + 2 * tot (ls.take j)))) : Kd.C (Kd.slice 66 k66) wr (some ⟨g, 0, none⟩) ls.length (mkd ls a) := by
  refine ⟨mkd_len ls a, by omega, fun _ => ⟨_, rfl, fun j p hj => ?_⟩⟩
  have hjl : j < ls.length := by
    rcases Nat.lt_or_ge j ls.length with h | h
    · exact h
    · rw [List.getElem?_eq_none (by rw [mkd_len]; exact h)] at hj; cases hj
  have hl : ls[j]? = some ls[j] := List.getElem?_eq_getElem hjl
  rw [mkd_at ls a j _ hl] at hj
  obtain rfl := Option.some.inj hj
  obtain ⟨v, hv, hr⟩ := h j _ hl
  rw [if_neg (by omega)] at hr
  obtain ⟨A, c, rfl, hc, hC⟩ := Kd.R_reads hr
  refine ⟨[.slice A _ c], rfl, ⟨A, c, rfl, hc, hC⟩, fun i u hu => ?_⟩
  rcases Nat.eq_zero_or_pos i with rfl | hi
  · simp only [List.getElem?_cons_zero, Option.some.injEq] at hu
    subst hu
    rw [← hv]
    rcases Nat.eq_zero_or_pos j with rfl | hj0
    · simp [Addr.add, Kd.slice]
    · simp [Addr.add, Kd.slice, Nat.pos_iff_ne_zero.mp hj0]
  · rw [List.getElem?_eq_none (by simp; omega)] at hu; cases hu
set_option maxRecDepth 100000 in
set_option maxHeartbeats 2000000 in
theorem markCellSS_calls (ls : List (List S66)) (a : Int) (u : Value) (ok : Nat → Prop) (w0 w : World) (hB : Below w0.heap.size w0 w) (hS : Kd.S (Kd.slice 66 k66) 25 w w0.heap.size ok u ls) (ha : 0 ≤ a) (hs : a + 2 * tot ls ≤ 1000000000) (hn : ls.length ≤ 1000000000) :
    Calls Try.prog 35 #[u, .int .i64 a] w fun e w' => e = .returned (.int .i64 (a + 2 * tot ls)) ∧ Below w0.heap.size w0 w' ∧ Kept w w' ok ∧ ∀ A c, u = .slice A ls.length c → Kd.C (Kd.slice 66 k66) w' A ls.length (mkd ls a) := by
  by_cases hp : 0 < ls.length
  · obtain ⟨g, cap, rfl, hg, hlt, cells, hblk⟩ := Kd.S_form hS hp
    obtain ⟨f, hR⟩ := hS
    have hst : MkSt ls a f ok g w0 w w 0 := by
      refine ⟨hB, Kept.refl _ _, fun j l hj => ?_⟩
      have hjl : j < ls.length := by
        rcases Nat.lt_or_ge j ls.length with h | h
        · exact h
        · rw [List.getElem?_eq_none h] at hj; cases hj
      obtain ⟨c, hcl, hM, hcc⟩ := Kd.R_getA hR (([] : List S66), 0) (j : Int) (by omega) (by omega)
      have hz : ls.zipIdx.getD (j : Int).toNat (([] : List S66), 0) = (l, j) := by
        rw [Int.toNat_natCast, List.getD_eq_getElem?_getD, Kd.zip_at hj]; rfl
      rw [hz] at hM
      obtain ⟨v, rfl, hv⟩ := hM
      refine ⟨v, ?_, by rw [if_pos (Nat.zero_le _)]; exact Kd.R_mono hv (fun k hk => ⟨⟨hk.1.1, fun e => hk.1.2 (by rw [e]; rfl)⟩, hk.2⟩)⟩
      have h1 := hcc 0 v rfl
      rw [Int.toNat_natCast] at h1
      rcases Nat.eq_zero_or_pos j with rfl | hj0
      · simpa [Addr.add, Kd.tag, Kd.slice] using h1
      · simpa [Addr.add, Kd.tag, Kd.slice, Nat.pos_iff_ne_zero.mp hj0] using h1
    have HST := Lib.hid hst
    have hlt0 := hlt
    clear hst hR hblk hB
    go_enter Try.func35, Try.ntmps35
    go_wp2
    go_loopw [1, 5] (fun v1 v5 wr => ∃ i : Nat, i ≤ ls.length ∧ v5 = .int .i64 i ∧ v1 = .int .i64 (a + 2 * tot (ls.take i)) ∧ MkSt ls a f ok g w0 w wr i) (fun _ v5 _ => ls.length - (intOf v5).toNat)
    case atStart => exact ⟨0, Nat.zero_le _, rfl, by simp [tot], HST.out⟩
    case round =>
      obtain ⟨i, hi, rfl, rfl, hst⟩ := hrel
      clear HST
      have HST := Lib.hid hst
      clear hst
      by_cases hil : i < ls.length
      · obtain ⟨l, hl⟩ : ∃ l, ls[i]? = some l := ⟨ls[i], by simp [hil]⟩
        obtain ⟨hb0, hk0, hcell⟩ := HST.out
        obtain ⟨v, hv, hr⟩ := hcell i l hl
        rw [if_pos (Nat.le_refl _)] at hr
        have HR := Lib.hid hr
        have HL := Lib.hid hl
        have HVV := Lib.hid hv
        have htt := tot_take ls i l hl
        have ht1 := tot_take_le ls (i + 1)
        have ht0 := tot_pos (ls.take i)
        obtain ⟨A1, c1, hv1⟩ := Kd.R_slice HR.out
        subst hv1
        have hy := markCell_gen l.length (by omega) (a + 2 * tot (ls.take i)) (by omega) (by omega) l.length (l.length + 1) 0 l rfl (by omega) (by omega)
        have hm : laws_markCellS.f (l.length + 1) l (a + 2 * tot (ls.take i)) = some (a + 2 * tot (ls.take (i + 1)), mkrow l.length (a + 2 * tot (ls.take i))) := by
          unfold laws_markCellS.f
          have e0 : ((0 : Nat) : Int) = 0 := rfl
          rw [e0] at hy
          rw [show a + 2 * tot (ls.take i) + 2 * (0 : Int) = a + 2 * tot (ls.take i) by omega] at hy
          rw [hy, htt]
          simp only [List.take_zero, List.nil_append]
          congr 2
          omega
        have hgw : g < wr.heap.size := aj_ hlt0 hk0.1
        have hcall := laws_markCellS.calls (l.length + 1) _ _ l (a + 2 * tot (ls.take i)) _ _ w0 wr hb0 HR.out hm
        have C := Lib.hid hcall
        have hi2 : (i : Int) < (ls.length : Int) := by omega
        clear hcall hy hm hl hcell hr htt ht1 ht0 hb0 hk0
        go_wp2_with (go_at_call 26; (with_reducible refine C.out.mono ?_); rintro e w2 ⟨rfl, hn2, hb2, hk2⟩; have HST2 := Lib.hid (MkSt.step HST.out HL.out HVV.out hn2 HR.out.1 hb2 hk2 hgw); clear hn2 hb2 hk2)
        go_roundw
        case rel => exact ⟨i + 1, by omega, by go_num, rfl, HST2.out⟩
        case measure => simp [intOf]; omega
      · obtain rfl : i = ls.length := by omega
        go_wp2
        go_ret
        obtain ⟨hb0, hk0, hcell⟩ := HST.out
        exact ⟨by rw [List.take_length]; rfl, hb0, hk0, fun A c he => by injection he with h1 _ _; subst h1; exact MkSt.reads hn hcell⟩
  · obtain ⟨A, c, rfl⟩ := Kd.S_slice hS
    have hl0 : ls = [] := by
      cases ls with
      | nil => rfl
      | cons => simp at hp
    subst hl0
    clear hS
    go_enter Try.func35, Try.ntmps35
    go_wp2
    go_loopw [1, 5] (fun v1 v5 wr => v5 = .int .i64 0 ∧ v1 = .int .i64 a ∧ wr = w) (fun _ _ _ => 0)
    case atStart => exact ⟨rfl, rfl, rfl⟩
    case round =>
      obtain ⟨rfl, rfl, rfl⟩ := hrel
      go_wp2
      go_ret
      exact ⟨by simp [tot], hB, Kept.refl _ _, fun A c _ => ⟨rfl, by simp, fun h => absurd h (Nat.lt_irrefl 0)⟩⟩
end Go.Proofs.Ytgoiifpimpnlpaa.PAll

end

section
namespace Go.Proofs.Ytgoiifpimpnlpaa.PAll
open Go.RowKit Go.Proofs.YtgoiifpimpnlpaaW.PrintWords Go.Proofs.YtgoiifpimpnlpaaW.PrintLast Go.Proofs.YtgoiifpimpnlpaaW.PrintMore
set_option linter.unusedVariables false
set_option linter.unusedSimpArgs false
def CPost (gs : List Nat) (w : World) (e : Ending) (w' : World) : Prop := ∃ b c' arr, e = .returned (.slice (some ⟨b, 0, none⟩) gs.length c') ∧ gs.length ≤ c' ∧ w.heap.size ≤ b ∧ w'.heap[b]? = some (.cells (gs.map ptr ++ arr).toArray 69 (0, 0)) ∧ Below w.heap.size w w'
set_option maxHeartbeats 1000000 in
theorem clone1_calls (p : Nat) (ad : Addr) (c : Nat) (w : World) (h0 : w.cell? ad = some (ptr p)) :
    Calls Try.prog 131 #[.slice (some ad) 1 c] w (CPost [p] w) := by
  have hnil : ∀ W : World, (binOp .eql 78 (.slice (some ad) 1 c) (.slice none 0 0)).run Try.prog W = .ok (.bool false) W := fun W => Lib.run_eql_slice_nil _ _ _ _ _ _ _ _ Try.underlying78
  have h0' : w.cell? ad = some (ptr p) := h0
  have f0 : ∀ o, (w.alloc o).drew.cell? ad = some (ptr p) := fun o => ((ah_ (ai_ (aq_ w.heap.size w) o)).cell (aa_ w _ h0')).trans h0'
  clear h0
  unfold ptr at *
  go_enter Try.func131, Try.ntmps131
  go_wp2_with fail
  go_ret
  refine ⟨_, _, (Builtin.zeroCells #[Value.pointer none] ((Question.appendCap 1 0 69).cut (w.tape w.drawn (Question.appendCap 1 0 69)) - 1)).toList, rfl, ?_, by show w.heap.size ≤ w.heap.size + 1; omega, ?_, ah_ (ai_ (ai_ (aq_ _ _) _) _)⟩
  · exact Nat.le_add_right _ _
  · refine ae_ ?_
    have := blk_new (w.alloc (.cells #[] 69)) (.cells (#[.pointer (some ⟨p, 0, none⟩)] ++ Builtin.zeroCells #[Value.pointer none] ((Question.appendCap 1 0 69).cut (w.tape w.drawn (Question.appendCap 1 0 69)) - 1)) 69)
    have e : (([p] : List Nat).map ptr ++ (Builtin.zeroCells #[Value.pointer none] ((Question.appendCap 1 0 69).cut (w.tape w.drawn (Question.appendCap 1 0 69)) - 1)).toList).toArray = #[.pointer (some ⟨p, 0, none⟩)] ++ Builtin.zeroCells #[Value.pointer none] ((Question.appendCap 1 0 69).cut (w.tape w.drawn (Question.appendCap 1 0 69)) - 1) := by apply Array.ext'; simp [ptr]
    rw [e]
    simpa using this
set_option maxHeartbeats 1000000 in
theorem clone2_calls (p q : Nat) (ad : Addr) (c : Nat) (w : World) (h0 : w.cell? ad = some (ptr p)) (h1 : w.cell? (ad.add 1) = some (ptr q)) :
    Calls Try.prog 131 #[.slice (some ad) 2 c] w (CPost [p, q] w) := by
  have hnil : ∀ W : World, (binOp .eql 78 (.slice (some ad) 2 c) (.slice none 0 0)).run Try.prog W = .ok (.bool false) W := fun W => Lib.run_eql_slice_nil _ _ _ _ _ _ _ _ Try.underlying78
  have h0' : w.cell? ad = some (ptr p) := h0
  have f0 : ∀ o, (w.alloc o).drew.cell? ad = some (ptr p) := fun o => ((ah_ (ai_ (aq_ w.heap.size w) o)).cell (aa_ w _ h0')).trans h0'
  have h1' : w.cell? ⟨ad.block, ad.off + 1, none⟩ = some (ptr q) := h1
  have f1 : ∀ o, (w.alloc o).drew.cell? ⟨ad.block, ad.off + 1, none⟩ = some (ptr q) := fun o => ((ah_ (ai_ (aq_ w.heap.size w) o)).cell (aa_ w _ h1')).trans h1'
  clear h0 h1
  unfold ptr at *
  go_enter Try.func131, Try.ntmps131
  go_wp2_with fail
  go_ret
  refine ⟨_, _, (Builtin.zeroCells #[Value.pointer none] ((Question.appendCap 2 0 69).cut (w.tape w.drawn (Question.appendCap 2 0 69)) - 2)).toList, rfl, ?_, by show w.heap.size ≤ w.heap.size + 1; omega, ?_, ah_ (ai_ (ai_ (aq_ _ _) _) _)⟩
  · exact Nat.le_add_right _ _
  · refine ae_ ?_
    have := blk_new (w.alloc (.cells #[] 69)) (.cells (#[.pointer (some ⟨p, 0, none⟩), .pointer (some ⟨q, 0, none⟩)] ++ Builtin.zeroCells #[Value.pointer none] ((Question.appendCap 2 0 69).cut (w.tape w.drawn (Question.appendCap 2 0 69)) - 2)) 69)
    have e : (([p, q] : List Nat).map ptr ++ (Builtin.zeroCells #[Value.pointer none] ((Question.appendCap 2 0 69).cut (w.tape w.drawn (Question.appendCap 2 0 69)) - 2)).toList).toArray = #[.pointer (some ⟨p, 0, none⟩), .pointer (some ⟨q, 0, none⟩)] ++ Builtin.zeroCells #[Value.pointer none] ((Question.appendCap 2 0 69).cut (w.tape w.drawn (Question.appendCap 2 0 69)) - 2) := by apply Array.ext'; simp [ptr]
    rw [e]
    simpa using this
set_option maxHeartbeats 1000000 in
theorem clone3_calls (p q r : Nat) (ad : Addr) (c : Nat) (w : World) (h0 : w.cell? ad = some (ptr p)) (h1 : w.cell? (ad.add 1) = some (ptr q)) (h2 : w.cell? (ad.add 2) = some (ptr r)) :
    Calls Try.prog 131 #[.slice (some ad) 3 c] w (CPost [p, q, r] w) := by
  have hnil : ∀ W : World, (binOp .eql 78 (.slice (some ad) 3 c) (.slice none 0 0)).run Try.prog W = .ok (.bool false) W := fun W => Lib.run_eql_slice_nil _ _ _ _ _ _ _ _ Try.underlying78
  have h0' : w.cell? ad = some (ptr p) := h0
  have f0 : ∀ o, (w.alloc o).drew.cell? ad = some (ptr p) := fun o => ((ah_ (ai_ (aq_ w.heap.size w) o)).cell (aa_ w _ h0')).trans h0'
  have h1' : w.cell? ⟨ad.block, ad.off + 1, none⟩ = some (ptr q) := h1
  have f1 : ∀ o, (w.alloc o).drew.cell? ⟨ad.block, ad.off + 1, none⟩ = some (ptr q) := fun o => ((ah_ (ai_ (aq_ w.heap.size w) o)).cell (aa_ w _ h1')).trans h1'
  have h2' : w.cell? ⟨ad.block, ad.off + 2, none⟩ = some (ptr r) := h2
  have f2 : ∀ o, (w.alloc o).drew.cell? ⟨ad.block, ad.off + 2, none⟩ = some (ptr r) := fun o => ((ah_ (ai_ (aq_ w.heap.size w) o)).cell (aa_ w _ h2')).trans h2'
  clear h0 h1 h2
  unfold ptr at *
  go_enter Try.func131, Try.ntmps131
  go_wp2_with fail
  go_ret
  refine ⟨_, _, (Builtin.zeroCells #[Value.pointer none] ((Question.appendCap 3 0 69).cut (w.tape w.drawn (Question.appendCap 3 0 69)) - 3)).toList, rfl, ?_, by show w.heap.size ≤ w.heap.size + 1; omega, ?_, ah_ (ai_ (ai_ (aq_ _ _) _) _)⟩
  · exact Nat.le_add_right _ _
  · refine ae_ ?_
    have := blk_new (w.alloc (.cells #[] 69)) (.cells (#[.pointer (some ⟨p, 0, none⟩), .pointer (some ⟨q, 0, none⟩), .pointer (some ⟨r, 0, none⟩)] ++ Builtin.zeroCells #[Value.pointer none] ((Question.appendCap 3 0 69).cut (w.tape w.drawn (Question.appendCap 3 0 69)) - 3)) 69)
    have e : (([p, q, r] : List Nat).map ptr ++ (Builtin.zeroCells #[Value.pointer none] ((Question.appendCap 3 0 69).cut (w.tape w.drawn (Question.appendCap 3 0 69)) - 3)).toList).toArray = #[.pointer (some ⟨p, 0, none⟩), .pointer (some ⟨q, 0, none⟩), .pointer (some ⟨r, 0, none⟩)] ++ Builtin.zeroCells #[Value.pointer none] ((Question.appendCap 3 0 69).cut (w.tape w.drawn (Question.appendCap 3 0 69)) - 3) := by apply Array.ext'; simp [ptr]
    rw [e]
    simpa using this
theorem clone_calls (gs : List Nat) (ad : Addr) (c : Nat) (w : World) (hn : 0 < gs.length) (hn3 : gs.length ≤ 3) (hrow : ∀ (i p : Nat), gs[i]? = some p → w.cell? (ad.add i) = some (ptr p)) :
    Calls Try.prog 131 #[.slice (some ad) gs.length c] w (CPost gs w) := by
  match gs, hn, hn3, hrow with
  | [p], _, _, hrow =>
    have h0 := hrow 0 p rfl
    rw [show ad.add 0 = ad by simp [Addr.add]] at h0
    exact clone1_calls p ad c w h0
  | [p, q], _, _, hrow =>
    have h0 := hrow 0 p rfl
    rw [show ad.add 0 = ad by simp [Addr.add]] at h0
    exact clone2_calls p q ad c w h0 (hrow 1 q rfl)
  | [p, q, r], _, _, hrow =>
    have h0 := hrow 0 p rfl
    rw [show ad.add 0 = ad by simp [Addr.add]] at h0
    exact clone3_calls p q r ad c w h0 (hrow 1 q rfl) (hrow 2 r rfl)
  | _ :: _ :: _ :: _ :: _, _, h, _ => simp at h
theorem LAt.set {S : Nat → Prop} {w : World} {q : Nat} {u : Tm} (hT : TAt S w q u) : ∀ {gs : List Nat} {ts : List Tm} (i : Nat), LAt S w gs ts → LAt S w (gs.set i q) (ts.set i u)
  | [], [], i, h => by simpa using h
  | g :: gs, t :: ts, 0, h => by simp only [LAt] at h; simp only [List.set_cons_zero, LAt]; exact ⟨hT, h.2⟩
  | g :: gs, t :: ts, i + 1, h => by simp only [LAt] at h; simp only [List.set_cons_succ, LAt]; exact ⟨h.1, LAt.set hT i h.2⟩
  | [], _ :: _, _, h => by simp [LAt] at h
  | _ :: _, [], _, h => by simp [LAt] at h
set_option maxRecDepth 100000 in
set_option maxHeartbeats 2000000 in
theorem with_calls (S : Nat → Prop) (k n : Int) (ks : List Tm) (i : Nat) (u : Tm) (g q : Nat) (w : World) (hk3 : ks.length ≤ 3) (hi : i < ks.length) (hS : ∀ k, w.heap.size ≤ k → S k) (hT : TAt S w g (.mk k n ks)) (hu : TAt S w q u) :
    Calls Try.prog 116 #[ptr g, .int .i64 i, ptr q] w (PPost S (.mk k n (ks.set i u)) w) := by
  obtain ⟨A, c, gs, hc, c0, c1, c2, c3, hrow, hl⟩ := hT.cells
  have hgl := hl.length
  obtain ⟨p0, hp0⟩ : ∃ p0, gs[0]? = some p0 := ⟨gs[0]'(by omega), by simp [show 0 < gs.length by omega]⟩
  obtain ⟨ad, rfl, _, _⟩ := hrow 0 p0 hp0
  have hrow' : ∀ (j p : Nat), gs[j]? = some p → w.cell? (ad.add j) = some (ptr p) := by
    intro j p hj
    obtain ⟨ad', e, _, h⟩ := hrow j p hj
    injection e with e
    subst e
    exact h
  have C := Lib.hid (clone_calls gs ad c w (by omega) (by omega) hrow')
  rw [hgl] at C
  have kk : ∀ w1, Below w.heap.size w w1 → w1.cell? ⟨g, 0, none⟩ = some (.int .i64 k) ∧ w1.cell? ⟨g, 1, none⟩ = some (.int .i64 n) := fun w1 hb => ⟨(hb.cell (aa_ w _ c0)).trans c0, (hb.cell (aa_ w _ c1)).trans c1⟩
  have KK := Lib.hid kk
  have HL := Lib.hid hl
  have HU := Lib.hid hu
  have HS := Lib.hid hS
  clear hrow hrow' hl hu hT kk hp0 hS
  unfold ptr
  go_enter Try.func116, Try.ntmps116
  go_wp2_with fail
  refine C.out.mono ?_
  rintro e w1 ⟨b, c', arr, rfl, hc', hwb, hblk, hb1⟩
  rw [hgl] at hc' ⊢
  have hil : i < (gs.map ptr ++ arr).toArray.size := by simp; omega
  obtain ⟨old, hold⟩ : ∃ old, (gs.map ptr ++ arr).toArray[i]? = some old := ⟨_, Array.getElem?_eq_getElem hil⟩
  have k1 : w1.cell? ⟨b, i, none⟩ = some old := (an_ hblk i).trans hold
  have f1 : w1.frozen? ⟨b, i, none⟩ = false := am_ hblk i
  have HB1 := Lib.hid hb1
  have hB2 : Below w.heap.size w (w1.setCell ⟨b, i, none⟩ (.pointer (some ⟨q, 0, none⟩))) := af_ hb1 hwb
  have KK2 := KK.out _ hB2
  obtain ⟨d0, d1⟩ := KK2
  have hblk2 : (w1.setCell ⟨b, i, none⟩ (.pointer (some ⟨q, 0, none⟩))).heap[b]? = some (.cells ((gs.map ptr ++ arr).toArray.setIfInBounds i (.pointer (some ⟨q, 0, none⟩))) 69 (0, 0)) := blk_set hblk i _
  have hrow2 : PtrRow S (w1.setCell ⟨b, i, none⟩ (.pointer (some ⟨q, 0, none⟩))) (some ⟨b, 0, none⟩) (gs.set i q) := by
    intro j p hj
    refine ⟨⟨b, 0, none⟩, rfl, HS.out _ hwb, ?_⟩
    rw [add_plain]
    refine (an_ hblk2 j).trans ?_
    have hjl : j < gs.length := by
      rcases Nat.lt_or_ge j gs.length with h | h
      · exact h
      · rw [List.getElem?_eq_none (by simp; omega)] at hj; cases hj
    by_cases hji : j = i
    · subst hji
      rw [List.getElem?_set_self (by omega)] at hj
      obtain rfl := Option.some.inj hj
      rw [Array.getElem?_setIfInBounds_self_of_lt hil]
      rfl
    · rw [List.getElem?_set_ne (by omega)] at hj
      rw [Array.getElem?_setIfInBounds_ne (by omega)]
      rw [List.getElem?_toArray, List.getElem?_append_left (by simp [hjl]), List.getElem?_map, hj]
      rfl
  have hl2 : LAt S (w1.setCell ⟨b, i, none⟩ (.pointer (some ⟨q, 0, none⟩))) (gs.set i q) (ks.set i u) := LAt.set (HU.out.below hB2) i (HL.out.below hB2)
  have hlen : (ks.set i u).length = ks.length := by simp
  have N := Lib.hid (fun (W : World) (hb2 : Below (w1.setCell ⟨b, i, none⟩ (.pointer (some ⟨q, 0, none⟩))).heap.size (w1.setCell ⟨b, i, none⟩ (.pointer (some ⟨q, 0, none⟩))) W) => newTerm_calls S k n (ks.set i u) (some ⟨b, 0, none⟩) c' (gs.set i q) W (by omega) (by omega) (hrow2.below hb2) (hl2.below hb2) (fun x hx => HS.out x (by have := hB2.size; have := hb2.size; omega)))
  rw [hlen] at N
  have HB2 := Lib.hid hB2
  have hii : (i : Int) < (ks.length : Int) := by omega
  clear hblk hblk2 hrow2 hl2 hlen hold hil hB2 hb1
  go_wp2
  go_region_with (go_at_call 93; (with_reducible refine (N.out _ (by repeat (first | exact aq_ _ _ | apply ag_ | apply ah_))).mono ?_); rintro e w3 ⟨r, rfl, hg, hT, hb3⟩; have HR := Lib.hid hT; have HB3 := Lib.hid (ap_ HB2.out (ap_ (show Below (w1.setCell ⟨b, i, none⟩ (.pointer (some ⟨q, 0, none⟩))).heap.size (w1.setCell ⟨b, i, none⟩ (.pointer (some ⟨q, 0, none⟩))) _ from by repeat (first | exact aq_ _ _ | apply ag_ | apply ah_)) hb3)); clear hT hb3 hg; unfold ptr)
  all_goals go_wp2
  all_goals go_ret
  all_goals exact ⟨r, rfl, HR.out, HB3.out⟩
end Go.Proofs.Ytgoiifpimpnlpaa.PAll

end
