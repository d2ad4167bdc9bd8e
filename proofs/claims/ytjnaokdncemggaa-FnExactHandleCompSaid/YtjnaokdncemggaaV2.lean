-- Made by pack.py of the texts that the law reaches.
import Derived.Deep.RegionHeld3
import Derived.Deep.RegionLaw
import Derived.Deep.RegionWith
import Derived.Lib.Hide
import Derived.Outline
import Derived.Test.YtjnaokdncemggaaV1
section
namespace Go.Proofs.Ytjnaokdncemggaa.PAll
open Go.RowKit Go.Proofs.YtjnaokdncemggaaW.PrintWords Go.Proofs.YtjnaokdncemggaaW.PrintLast Go.Proofs.YtjnaokdncemggaaW.PrintMore
attribute [local go_sem] max2_int min2_int max_two min_two max_three min_three max_four min_four   -- for this text's walks alone
set_option linter.unusedVariables false
set_option linter.unusedSimpArgs false
def laws_eqCompS.l0 : Nat → List (S83) → List (S83) → Int → Option (Bool)
  | 0, _, _, _ => none
  | k + 1, x0, x1, x5 => if x5 < (x0.length : Int) then (if 0 ≤ x5 then (if x5 < (x1.length : Int) then ((laws_eqComp.f ((rd_T83 x0 x5).f0) ((rd_T83 x0 x5).f1) ((rd_T83 x1 x5).f0) ((rd_T83 x1 x5).f1)).bind fun t209 => (if t209 = true then (laws_eqCompS.l0 k x0 x1 (wrap64 (x5 + 1))) else (some false))) else (none)) else (none)) else (some true)
def laws_eqCompS.f (k : Nat) (l0 : List (S83)) (l1 : List (S83)) : Option (Bool) := if (l0.length : Int) = (l1.length : Int) then (laws_eqCompS.l0 k l0 l1 0) else (some false)
theorem laws_eqCompS.mono_l : ∀ k, (∀ y0 y1 y2, LeO (laws_eqCompS.l0 k y0 y1 y2) (laws_eqCompS.l0 (k + 1) y0 y1 y2))
  | 0 => fun _ _ _ r h => by simp [laws_eqCompS.l0] at h
  | k + 1 => by
    have ih0 := laws_eqCompS.mono_l k
    · intro y0 y1 y2
      unfold laws_eqCompS.l0
      repeat' first
      | (with_reducible exact ih0 _ _ _)
      | (with_reducible exact LeO.refl _)
      | (with_reducible exact LeO.none _)
      | (with_reducible refine LeO.ite ?_ ?_)
      | (with_reducible refine LeO.bind ?_ (fun _ => ?_))
      | exact ih0 _ _ _
      | exact LeO.none _
      | refine LeO.ite ?_ ?_
      | refine LeO.bind ?_ (fun _ => ?_)
theorem laws_eqCompS.mono : ∀ a0 a1 k, LeO (laws_eqCompS.f k a0 a1) (laws_eqCompS.f (k + 1) a0 a1) := by
  intro a0 a1 k
  have ih0 := laws_eqCompS.mono_l k
  unfold laws_eqCompS.f
  repeat' first
      | (with_reducible exact ih0 _ _ _)
      | (with_reducible exact LeO.refl _)
      | (with_reducible exact LeO.none _)
      | (with_reducible refine LeO.ite ?_ ?_)
      | (with_reducible refine LeO.bind ?_ (fun _ => ?_))
      | exact ih0 _ _ _
      | exact LeO.none _
      | refine LeO.ite ?_ ?_
      | refine LeO.bind ?_ (fun _ => ?_)
def laws_eqCompS.T6 : Bool × List (List Nat × List Nat) := (true, [([], []), ([], []), ([0, 1], [0, 1]), ([2], [2]), ([], []), ([], []), ([4, 5], [4, 5]), ([6], [6]), ([3, 7], [3, 7]), ([8], [8])])
def laws_eqCompS.B6 : List Nat := [0, 0, 3, 7, 0, 0, 48, 112, 255, 511]
theorem laws_eqCompS.tab6 : rtab .any (opsOf Try.f22 6) = laws_eqCompS.T6 := by kernel_rfl
theorem laws_eqCompS.bits6 : waitsOk laws_eqCompS.T6.2 laws_eqCompS.B6 = true := by kernel_rfl
set_option maxHeartbeats 8000000 in
set_option maxRecDepth 100000 in
theorem laws_eqCompS.calls (k : Nat) (A0 : Option Addr) (c0 : Nat) (l0 : List (S83)) (A1 : Option Addr) (c1 : Nat) (l1 : List (S83)) (r : Bool) (w : World) (hr0 : Kd.C k83 w A0 l0.length l0) (hc0 : l0.length ≤ c0) (hr1 : Kd.C k83 w A1 l1.length l1) (hc1 : l1.length ≤ c1) (h : laws_eqCompS.f k l0 l1 = some r) :
    Calls Try.prog 22 #[.slice A0 l0.length c0, .slice A1 l1.length c1] w fun e w' => e = .returned (.bool r) ∧ Below w.heap.size w w' := by
  have hu83 := Try.underlying83
  have HR0 := ab_ hr0
  have HC0 := ab_ hc0
  clear hr0 hc0
  have HR1 := ab_ hr1
  have HC1 := ab_ hc1
  clear hr1 hc1
  have HB := ab_ (av_ w.heap.size w)
  have H : (if (l0.length : Int) = (l1.length : Int) then (laws_eqCompS.l0 k l0 l1 0) else (some false)) = some r := h
  clear h
  by_cases c3 : (l0.length : Int) = (l1.length : Int)
  · rw [if_pos c3] at H
    have c3b0 : ((l0.length : Int) == (l1.length : Int)) = true := beq_iff_eq.mpr c3
    have c3b1 : ((l0.length : Int) != (l1.length : Int)) = false := bne_eq_false_iff_eq.mpr c3
    have c3b2 : (l0.length == l1.length) = true := by first | simpa using c3 | (simp at c3 ⊢; omega)
    clear c3
    have H' := ab_ H
    clear H
    go_enter Try.func22, Try.ntmps22
    go_wp2
    go_loopg [5] k (fun kq v5 w' => ∃ (x5_1 : Int), v5 = .int .i64 x5_1 ∧ Aside0 (laws_eqCompS.l0 kq l0 l1 x5_1 = some r) ∧ Aside0 (kq ≤ k) ∧ Aside0 (Below w.heap.size w w'))
    case atStart => exact ⟨(0), (by first | rfl | (simp; done) | (simp [*]; done)), H', ⟨Nat.le_refl _⟩, ⟨by repeat (first | (with_reducible first | exact HB.out | apply ai_ | apply ag_ | apply ah_) | exact HB.out)⟩⟩
    case round =>
      clear H'
      try clear c1
      try clear c2
      try clear p2
      try clear c3
      try clear c3b0
      try clear c3b1
      try clear c3b2
      obtain ⟨x5_1, rfl, HA, HK1, HB⟩ := hrel
      cases gk with
      | zero => exact absurd HA.out (by simp [laws_eqCompS.l0])
      | succ k1 =>
        have H := HA.out
        clear HA
        simp only [laws_eqCompS.l0] at H
        by_cases c4 : x5_1 < (l0.length : Int)
        · rw [if_pos c4] at H
          have c4b0 : decide (x5_1 < (l0.length : Int)) = true := at_ c4
          clear c4
          by_cases c5 : 0 ≤ x5_1
          · rw [if_pos c5] at H
            have c5b0 : decide (0 ≤ x5_1) = true := at_ c5
            clear c5
            by_cases c6 : x5_1 < (l1.length : Int)
            · rw [if_pos c6] at H
              have c6b0 : decide (x5_1 < (l1.length : Int)) = true := at_ c6
              clear c6
              replace H := Option.bind_eq_some_iff.mp H
              obtain ⟨t209, A70, H⟩ := H
              replace H : (if t209 = true then (laws_eqCompS.l0 k1 l0 l1 (wrap64 (x5_1 + 1))) else (some false)) = some r := H
              have A7 := ab_ A70
              clear A70
              by_cases c8 : t209 = true
              · subst c8
                have H1 : (laws_eqCompS.l0 k1 l0 l1 (wrap64 (x5_1 + 1))) = some r := by rw [if_pos rfl] at H; exact H
                clear H
                have H := H1
                clear H1
                have H' := ab_ H
                clear H
                try go_wp2
                have n0_ := ab_ (ah_ HB.out)
                clear HB
                have HB := n0_
                clear n0_
                have p207 : 0 ≤ (x5_1 : Int) := of_decide_eq_true (by first | (with_reducible assumption) | assumption)
                have q207 : x5_1 < (l0.length : Int) := of_decide_eq_true (by first | (with_reducible assumption) | assumption)
                obtain ⟨ad207, e207, hx207_0, hx207_1⟩ := at_T83 HR0.out x5_1 p207 q207
                have hw207_1 := hx207_1
                have hw207_0 := hx207_0
                cases e207
                replace hx207_0 := (HB.out.cell (aa_ w _ hx207_0)).trans hx207_0
                replace hx207_1 := (HB.out.cell (aa_ w _ hx207_1)).trans hx207_1
                replace p207 := eq_true p207
                replace q207 := eq_true q207
                have p208 : 0 ≤ (x5_1 : Int) := of_decide_eq_true (by first | (with_reducible assumption) | assumption)
                have q208 : x5_1 < (l1.length : Int) := of_decide_eq_true (by first | (with_reducible assumption) | assumption)
                obtain ⟨ad208, e208, hx208_0, hx208_1⟩ := at_T83 HR1.out x5_1 p208 q208
                have hw208_1 := hx208_1
                have hw208_0 := hx208_0
                cases e208
                replace hx208_0 := (HB.out.cell (aa_ w _ hx208_0)).trans hx208_0
                replace hx208_1 := (HB.out.cell (aa_ w _ hx208_1)).trans hx208_1
                replace p208 := eq_true p208
                replace q208 := eq_true q208
                refine start_ (n := 10) (S := fun w' => w'.cell? (ad207.add ((x5_1).toNat * 2)) = some (.int .i64 ((rd_T83 l0 x5_1).f0)) ∧ w'.cell? ⟨(ad207.add ((x5_1).toNat * 2)).block, (ad207.add ((x5_1).toNat * 2)).off + 1, none⟩ = some (.int .i64 ((rd_T83 l0 x5_1).f1)) ∧ w'.cell? (ad208.add ((x5_1).toNat * 2)) = some (.int .i64 ((rd_T83 l1 x5_1).f0)) ∧ w'.cell? ⟨(ad208.add ((x5_1).toNat * 2)).block, (ad208.add ((x5_1).toNat * 2)).off + 1, none⟩ = some (.int .i64 ((rd_T83 l1 x5_1).f1))) (ds := []) #[false, false, false, false, false, false, false, false, false, false] (by kernel_rfl) rfl rfl ⟨((HB.out.cell (aa_ w _ hw207_0)).trans hw207_0), ((HB.out.cell (aa_ w _ hw207_1)).trans hw207_1), ((HB.out.cell (aa_ w _ hw208_0)).trans hw208_0), ((HB.out.cell (aa_ w _ hw208_1)).trans hw208_1)⟩ (fun hHeld => ?_); refine with_tabW laws_eqCompS.tab6 laws_eqCompS.bits6 (fun HT_ HW_ => ?_)
                generalize wr.drew = w9 at HB hx207_0 hx207_1 hx208_0 hx208_1 hHeld ⊢
                refine pure_ (i := 0) (N := some 17) (v := ?_) (a' := ?_) #[true, false, false, false, false, false, false, false, false, false] rfl rfl (any_of HT_.out (by kernel_rfl)) (fun _ _ _ h => h) (Or.inl ⟨by rfl, ?_⟩) ?_ ?_
                rotate_left
                · intro w'
                  go_simp
                  with_reducible rfl
                rotate_left
                · simp only [Act.put, List.setIfInBounds_toArray, List.set_cons_zero, List.set_cons_succ, i64_w, i32_w]
                  rfl
                refine pure_ (i := 1) (N := some 18) (v := ?_) (a' := ?_) #[true, true, false, false, false, false, false, false, false, false] rfl rfl (any_of HT_.out (by kernel_rfl)) (fun _ _ _ h => h) (Or.inl ⟨by rfl, ?_⟩) ?_ ?_
                rotate_left
                · intro w'
                  go_simp
                  with_reducible rfl
                rotate_left
                · simp only [Act.put, List.setIfInBounds_toArray, List.set_cons_zero, List.set_cons_succ, i64_w, i32_w]
                  rfl
                refine pure_ (i := 2) (N := some 19) (v := ?_) (a' := ?_) #[true, true, true, false, false, false, false, false, false, false] rfl rfl (any_of HT_.out (by kernel_rfl)) (fun _ _ _ h => h) (Or.inl ⟨by rfl, ?_⟩) ?_ ?_
                rotate_left
                · intro w'
                  go_simp
                  with_reducible rfl
                rotate_left
                · simp only [Act.put, List.setIfInBounds_toArray, List.set_cons_zero, List.set_cons_succ, i64_w, i32_w]
                  rfl
                refine pure_ (i := 4) (N := some 21) (v := ?_) (a' := ?_) #[true, true, true, false, true, false, false, false, false, false] rfl rfl (any_of HT_.out (by kernel_rfl)) (fun _ _ _ h => h) (Or.inl ⟨by rfl, ?_⟩) ?_ ?_
                rotate_left
                · intro w'
                  go_simp
                  with_reducible rfl
                rotate_left
                · simp only [Act.put, List.setIfInBounds_toArray, List.set_cons_zero, List.set_cons_succ, i64_w, i32_w]
                  rfl
                refine pure_ (i := 5) (N := some 22) (v := ?_) (a' := ?_) #[true, true, true, false, true, true, false, false, false, false] rfl rfl (any_of HT_.out (by kernel_rfl)) (fun _ _ _ h => h) (Or.inl ⟨by rfl, ?_⟩) ?_ ?_
                rotate_left
                · intro w'
                  go_simp
                  with_reducible rfl
                rotate_left
                · simp only [Act.put, List.setIfInBounds_toArray, List.set_cons_zero, List.set_cons_succ, i64_w, i32_w]
                  rfl
                refine pure_ (i := 6) (N := some 23) (v := ?_) (a' := ?_) #[true, true, true, false, true, true, true, false, false, false] rfl rfl (any_of HT_.out (by kernel_rfl)) (fun _ _ _ h => h) (Or.inl ⟨by rfl, ?_⟩) ?_ ?_
                rotate_left
                · intro w'
                  go_simp
                  with_reducible rfl
                rotate_left
                · simp only [Act.put, List.setIfInBounds_toArray, List.set_cons_zero, List.set_cons_succ, i64_w, i32_w]
                  rfl
                refine take_ (i := 3) (N := some 20) (v := ?_) (a' := ?_) #[true, true, true, true, true, true, true, false, false, false] rfl rfl (take_ofW HT_.out HW_.out (by kernel_rfl)) (fun _ _ _ h => h) (Or.inl ⟨by rfl, ?_⟩) hHeld ?_ ?_
                rotate_left
                · rintro w' ⟨s0, s1, s2, s3⟩
                  go_simp
                  with_reducible rfl
                rotate_left
                · simp only [Act.put, List.setIfInBounds_toArray, List.set_cons_zero, List.set_cons_succ, i64_w, i32_w]
                  rfl
                refine take_ (i := 7) (N := some 24) (v := ?_) (a' := ?_) #[true, true, true, true, true, true, true, true, false, false] rfl rfl (take_ofW HT_.out HW_.out (by kernel_rfl)) (fun _ _ _ h => h) (Or.inl ⟨by rfl, ?_⟩) hHeld ?_ ?_
                rotate_left
                · rintro w' ⟨s0, s1, s2, s3⟩
                  go_simp
                  with_reducible rfl
                rotate_left
                · simp only [Act.put, List.setIfInBounds_toArray, List.set_cons_zero, List.set_cons_succ, i64_w, i32_w]
                  rfl
                refine one_ (i := 8) (N := some 25) #[true, true, true, true, true, true, true, true, true, false] rfl rfl (one_of HT_.out (by kernel_rfl)) (by decide) (fun K hK => ?_)
                refine goes_ Try.func67 (by kernel_rfl) rfl #[.agg #[.int .i64 ((rd_T83 l0 x5_1).f0), .int .i64 ((rd_T83 l0 x5_1).f1)], .agg #[.int .i64 ((rd_T83 l1 x5_1).f0), .int .i64 ((rd_T83 l1 x5_1).f1)]] (by rfl) rfl rfl (by (try simp only [List.map_toArray, List.map_cons, List.map_nil]); first | done | rfl | (simp only [List.length_drop, List.length_take]; rfl)) ?_
                with_reducible refine (laws_eqComp.calls ((rd_T83 l0 x5_1).f0) ((rd_T83 l0 x5_1).f1) ((rd_T83 l1 x5_1).f0) ((rd_T83 l1 x5_1).f1) true _ A7.out).mono ?_
                rintro e w10 ⟨rfl, hb⟩
                refine ⟨_, rfl, ?_⟩
                have n0_ := ab_ (au_ (by repeat (first | (with_reducible first | exact HB.out | apply ai_ | apply ag_ | apply ah_) | exact HB.out)) hb)
                clear HB
                have HB := n0_
                clear n0_
                (try clear hb)
                (try clear hb2)
                (try clear hk)
                (try clear hi)
                refine hK.out _ _ ⟨((HB.out.cell (aa_ w _ hw207_0)).trans hw207_0), ((HB.out.cell (aa_ w _ hw207_1)).trans hw207_1), ((HB.out.cell (aa_ w _ hw208_0)).trans hw208_0), ((HB.out.cell (aa_ w _ hw208_1)).trans hw208_1)⟩ (fun hHeld => ?_)
                clear hK K
                refine norm_ (a' := ?_) ?_ ?_
                rotate_left
                · show Act.put _ (some 25) _ = _
                  simp only [Act.put, List.setIfInBounds_toArray, List.set_cons_zero, List.set_cons_succ, i64_w, i32_w]
                  rfl
                refine pure_ (i := 9) (N := some 26) (v := ?_) (a' := ?_) #[true, true, true, true, true, true, true, true, true, true] rfl rfl (any_of HT_.out (by kernel_rfl)) (fun _ _ _ h => h) (Or.inl ⟨by rfl, ?_⟩) ?_ ?_
                rotate_left
                · intro w'
                  go_simp
                  with_reducible rfl
                rotate_left
                · simp only [Act.put, List.setIfInBounds_toArray, List.set_cons_zero, List.set_cons_succ, i64_w, i32_w]
                  rfl
                refine done_ (done_of HT_.out (by kernel_rfl)) ?_
                try go_wp2
                go_roundg k1
                case measure => have := HK1.out; omega
                case rel => exact ⟨(wrap64 (x5_1 + 1)), (by first | rfl | (simp; done) | (simp [*]; done)), H', ⟨by have := HK1.out; omega⟩, ⟨by repeat (first | (with_reducible first | exact HB.out | apply ai_ | apply ag_ | apply ah_) | exact HB.out)⟩⟩
              · replace c8 := Bool.eq_false_iff.mpr c8
                subst c8
                have H1 : (some false) = some r := by rw [if_neg (show ¬ (false = true) by decide)] at H; exact H
                clear H
                have H := H1
                clear H1
                obtain rfl := Option.some.inj H
                try go_wp2
                have n0_ := ab_ (ah_ HB.out)
                clear HB
                have HB := n0_
                clear n0_
                have p207 : 0 ≤ (x5_1 : Int) := of_decide_eq_true (by first | (with_reducible assumption) | assumption)
                have q207 : x5_1 < (l0.length : Int) := of_decide_eq_true (by first | (with_reducible assumption) | assumption)
                obtain ⟨ad207, e207, hx207_0, hx207_1⟩ := at_T83 HR0.out x5_1 p207 q207
                have hw207_1 := hx207_1
                have hw207_0 := hx207_0
                cases e207
                replace hx207_0 := (HB.out.cell (aa_ w _ hx207_0)).trans hx207_0
                replace hx207_1 := (HB.out.cell (aa_ w _ hx207_1)).trans hx207_1
                replace p207 := eq_true p207
                replace q207 := eq_true q207
                have p208 : 0 ≤ (x5_1 : Int) := of_decide_eq_true (by first | (with_reducible assumption) | assumption)
                have q208 : x5_1 < (l1.length : Int) := of_decide_eq_true (by first | (with_reducible assumption) | assumption)
                obtain ⟨ad208, e208, hx208_0, hx208_1⟩ := at_T83 HR1.out x5_1 p208 q208
                have hw208_1 := hx208_1
                have hw208_0 := hx208_0
                cases e208
                replace hx208_0 := (HB.out.cell (aa_ w _ hx208_0)).trans hx208_0
                replace hx208_1 := (HB.out.cell (aa_ w _ hx208_1)).trans hx208_1
                replace p208 := eq_true p208
                replace q208 := eq_true q208
                refine start_ (n := 10) (S := fun w' => w'.cell? (ad207.add ((x5_1).toNat * 2)) = some (.int .i64 ((rd_T83 l0 x5_1).f0)) ∧ w'.cell? ⟨(ad207.add ((x5_1).toNat * 2)).block, (ad207.add ((x5_1).toNat * 2)).off + 1, none⟩ = some (.int .i64 ((rd_T83 l0 x5_1).f1)) ∧ w'.cell? (ad208.add ((x5_1).toNat * 2)) = some (.int .i64 ((rd_T83 l1 x5_1).f0)) ∧ w'.cell? ⟨(ad208.add ((x5_1).toNat * 2)).block, (ad208.add ((x5_1).toNat * 2)).off + 1, none⟩ = some (.int .i64 ((rd_T83 l1 x5_1).f1))) (ds := []) #[false, false, false, false, false, false, false, false, false, false] (by kernel_rfl) rfl rfl ⟨((HB.out.cell (aa_ w _ hw207_0)).trans hw207_0), ((HB.out.cell (aa_ w _ hw207_1)).trans hw207_1), ((HB.out.cell (aa_ w _ hw208_0)).trans hw208_0), ((HB.out.cell (aa_ w _ hw208_1)).trans hw208_1)⟩ (fun hHeld => ?_); refine with_tabW laws_eqCompS.tab6 laws_eqCompS.bits6 (fun HT_ HW_ => ?_)
                generalize wr.drew = w11 at HB hx207_0 hx207_1 hx208_0 hx208_1 hHeld ⊢
                refine pure_ (i := 0) (N := some 17) (v := ?_) (a' := ?_) #[true, false, false, false, false, false, false, false, false, false] rfl rfl (any_of HT_.out (by kernel_rfl)) (fun _ _ _ h => h) (Or.inl ⟨by rfl, ?_⟩) ?_ ?_
                rotate_left
                · intro w'
                  go_simp
                  with_reducible rfl
                rotate_left
                · simp only [Act.put, List.setIfInBounds_toArray, List.set_cons_zero, List.set_cons_succ, i64_w, i32_w]
                  rfl
                refine pure_ (i := 1) (N := some 18) (v := ?_) (a' := ?_) #[true, true, false, false, false, false, false, false, false, false] rfl rfl (any_of HT_.out (by kernel_rfl)) (fun _ _ _ h => h) (Or.inl ⟨by rfl, ?_⟩) ?_ ?_
                rotate_left
                · intro w'
                  go_simp
                  with_reducible rfl
                rotate_left
                · simp only [Act.put, List.setIfInBounds_toArray, List.set_cons_zero, List.set_cons_succ, i64_w, i32_w]
                  rfl
                refine pure_ (i := 2) (N := some 19) (v := ?_) (a' := ?_) #[true, true, true, false, false, false, false, false, false, false] rfl rfl (any_of HT_.out (by kernel_rfl)) (fun _ _ _ h => h) (Or.inl ⟨by rfl, ?_⟩) ?_ ?_
                rotate_left
                · intro w'
                  go_simp
                  with_reducible rfl
                rotate_left
                · simp only [Act.put, List.setIfInBounds_toArray, List.set_cons_zero, List.set_cons_succ, i64_w, i32_w]
                  rfl
                refine pure_ (i := 4) (N := some 21) (v := ?_) (a' := ?_) #[true, true, true, false, true, false, false, false, false, false] rfl rfl (any_of HT_.out (by kernel_rfl)) (fun _ _ _ h => h) (Or.inl ⟨by rfl, ?_⟩) ?_ ?_
                rotate_left
                · intro w'
                  go_simp
                  with_reducible rfl
                rotate_left
                · simp only [Act.put, List.setIfInBounds_toArray, List.set_cons_zero, List.set_cons_succ, i64_w, i32_w]
                  rfl
                refine pure_ (i := 5) (N := some 22) (v := ?_) (a' := ?_) #[true, true, true, false, true, true, false, false, false, false] rfl rfl (any_of HT_.out (by kernel_rfl)) (fun _ _ _ h => h) (Or.inl ⟨by rfl, ?_⟩) ?_ ?_
                rotate_left
                · intro w'
                  go_simp
                  with_reducible rfl
                rotate_left
                · simp only [Act.put, List.setIfInBounds_toArray, List.set_cons_zero, List.set_cons_succ, i64_w, i32_w]
                  rfl
                refine pure_ (i := 6) (N := some 23) (v := ?_) (a' := ?_) #[true, true, true, false, true, true, true, false, false, false] rfl rfl (any_of HT_.out (by kernel_rfl)) (fun _ _ _ h => h) (Or.inl ⟨by rfl, ?_⟩) ?_ ?_
                rotate_left
                · intro w'
                  go_simp
                  with_reducible rfl
                rotate_left
                · simp only [Act.put, List.setIfInBounds_toArray, List.set_cons_zero, List.set_cons_succ, i64_w, i32_w]
                  rfl
                refine take_ (i := 3) (N := some 20) (v := ?_) (a' := ?_) #[true, true, true, true, true, true, true, false, false, false] rfl rfl (take_ofW HT_.out HW_.out (by kernel_rfl)) (fun _ _ _ h => h) (Or.inl ⟨by rfl, ?_⟩) hHeld ?_ ?_
                rotate_left
                · rintro w' ⟨s0, s1, s2, s3⟩
                  go_simp
                  with_reducible rfl
                rotate_left
                · simp only [Act.put, List.setIfInBounds_toArray, List.set_cons_zero, List.set_cons_succ, i64_w, i32_w]
                  rfl
                refine take_ (i := 7) (N := some 24) (v := ?_) (a' := ?_) #[true, true, true, true, true, true, true, true, false, false] rfl rfl (take_ofW HT_.out HW_.out (by kernel_rfl)) (fun _ _ _ h => h) (Or.inl ⟨by rfl, ?_⟩) hHeld ?_ ?_
                rotate_left
                · rintro w' ⟨s0, s1, s2, s3⟩
                  go_simp
                  with_reducible rfl
                rotate_left
                · simp only [Act.put, List.setIfInBounds_toArray, List.set_cons_zero, List.set_cons_succ, i64_w, i32_w]
                  rfl
                refine one_ (i := 8) (N := some 25) #[true, true, true, true, true, true, true, true, true, false] rfl rfl (one_of HT_.out (by kernel_rfl)) (by decide) (fun K hK => ?_)
                refine goes_ Try.func67 (by kernel_rfl) rfl #[.agg #[.int .i64 ((rd_T83 l0 x5_1).f0), .int .i64 ((rd_T83 l0 x5_1).f1)], .agg #[.int .i64 ((rd_T83 l1 x5_1).f0), .int .i64 ((rd_T83 l1 x5_1).f1)]] (by rfl) rfl rfl (by (try simp only [List.map_toArray, List.map_cons, List.map_nil]); first | done | rfl | (simp only [List.length_drop, List.length_take]; rfl)) ?_
                with_reducible refine (laws_eqComp.calls ((rd_T83 l0 x5_1).f0) ((rd_T83 l0 x5_1).f1) ((rd_T83 l1 x5_1).f0) ((rd_T83 l1 x5_1).f1) false _ A7.out).mono ?_
                rintro e w12 ⟨rfl, hb⟩
                refine ⟨_, rfl, ?_⟩
                have n0_ := ab_ (au_ (by repeat (first | (with_reducible first | exact HB.out | apply ai_ | apply ag_ | apply ah_) | exact HB.out)) hb)
                clear HB
                have HB := n0_
                clear n0_
                (try clear hb)
                (try clear hb2)
                (try clear hk)
                (try clear hi)
                refine hK.out _ _ ⟨((HB.out.cell (aa_ w _ hw207_0)).trans hw207_0), ((HB.out.cell (aa_ w _ hw207_1)).trans hw207_1), ((HB.out.cell (aa_ w _ hw208_0)).trans hw208_0), ((HB.out.cell (aa_ w _ hw208_1)).trans hw208_1)⟩ (fun hHeld => ?_)
                clear hK K
                refine norm_ (a' := ?_) ?_ ?_
                rotate_left
                · show Act.put _ (some 25) _ = _
                  simp only [Act.put, List.setIfInBounds_toArray, List.set_cons_zero, List.set_cons_succ, i64_w, i32_w]
                  rfl
                refine pure_ (i := 9) (N := some 26) (v := ?_) (a' := ?_) #[true, true, true, true, true, true, true, true, true, true] rfl rfl (any_of HT_.out (by kernel_rfl)) (fun _ _ _ h => h) (Or.inl ⟨by rfl, ?_⟩) ?_ ?_
                rotate_left
                · intro w'
                  go_simp
                  with_reducible rfl
                rotate_left
                · simp only [Act.put, List.setIfInBounds_toArray, List.set_cons_zero, List.set_cons_succ, i64_w, i32_w]
                  rfl
                refine done_ (done_of HT_.out (by kernel_rfl)) ?_
                try go_wp2
                go_ret
                exact ⟨by first | rfl | (simp [errW_none, errW_some] <;> rfl) | (simp [*, errW_none, errW_some] <;> rfl), by repeat (first | (with_reducible first | exact HB.out | apply ai_ | apply ag_ | apply ah_) | exact HB.out)⟩
            · rw [if_neg c6] at H
              exact absurd H (by simp)
          · rw [if_neg c5] at H
            exact absurd H (by simp)
        · rw [if_neg c4] at H
          have c4b0 : decide (x5_1 < (l0.length : Int)) = false := decide_eq_false c4
          clear c4
          obtain rfl := Option.some.inj H
          go_wp2
          go_ret
          exact ⟨by first | rfl | (simp [errW_none, errW_some] <;> rfl) | (simp [*, errW_none, errW_some] <;> rfl), by repeat (first | (with_reducible first | exact HB.out | apply ai_ | apply ag_ | apply ah_) | exact HB.out)⟩
  · rw [if_neg c3] at H
    have c3b0 : ((l0.length : Int) == (l1.length : Int)) = false := beq_eq_false_iff_ne.mpr c3
    have c3b1 : ((l0.length : Int) != (l1.length : Int)) = true := bne_iff_ne.mpr c3
    have c3b2 : (l0.length == l1.length) = false := by first | simpa using c3 | (simp at c3 ⊢; omega)
    obtain rfl := Option.some.inj H
    go_enter Try.func22, Try.ntmps22
    go_wp2
    go_ret
    exact ⟨by first | rfl | (simp [errW_none, errW_some] <;> rfl) | (simp [*, errW_none, errW_some] <;> rfl), by repeat (first | (with_reducible first | exact HB.out | apply ai_ | apply ag_ | apply ah_) | exact HB.out)⟩
end Go.Proofs.Ytjnaokdncemggaa.PAll

end

section
namespace Go.Proofs.Ytjnaokdncemggaa.PAll
open Go.RowKit Go.Proofs.YtjnaokdncemggaaW.PrintWords Go.Proofs.YtjnaokdncemggaaW.PrintLast Go.Proofs.YtjnaokdncemggaaW.PrintMore
theorem wrap_id {x : Int} (h0 : -9223372036854775808 ≤ x) (h1 : x < 9223372036854775808) : wrap64 x = x := by unfold wrap64; omega
def cvC (x : S97) : S83 := ⟨x.f0, x.f1⟩
theorem toCompS_loop (l : List S97) (hl : l.length ≤ 17592186044416) : ∀ (d k i : Nat) (x3 : List S83), i + d = l.length → x3.length = l.length → (∀ j, j < i → x3[j]? = (l.map cvC)[j]?) → d < k → laws_toCompS.l0 k l x3 (i : Int) = some (l.map cvC) := by
  intro d
  induction d with
  | zero =>
    intro k i x3 hi hx ht hk
    obtain ⟨k, rfl⟩ : ∃ m, k = m + 1 := ⟨k - 1, by omega⟩
    simp only [laws_toCompS.l0]
    rw [if_neg (by omega)]
    congr 1
    apply List.ext_getElem?
    intro j
    by_cases hj : j < i
    · exact ht j hj
    · rw [List.getElem?_eq_none (by omega), List.getElem?_eq_none (by simp; omega)]
  | succ d ih =>
    intro k i x3 hi hx ht hk
    obtain ⟨k, rfl⟩ : ∃ m, k = m + 1 := ⟨k - 1, by omega⟩
    have hlt : i < l.length := by omega
    have hr : rd_T97 l (i : Int) = l[i] := by simp [rd_T97, List.getD_eq_getElem?_getD, List.getElem?_eq_getElem hlt]
    simp only [laws_toCompS.l0]
    rw [if_pos (by omega), if_pos (by omega), hr]
    simp only [laws_toComp.f, Option.bind_some]
    rw [if_pos (by omega), wrap_id (by omega) (by omega)]
    have := ih k (i + 1) (x3.set i (cvC l[i])) (by omega) (by simp [hx]) (fun j hj => ?_) (by omega)
    · simpa [cvC] using this
    · by_cases hji : j = i
      · subst hji
        rw [List.getElem?_set_self (by omega)]
        simp [hlt]
      · rw [List.getElem?_set_ne (by omega)]
        exact ht j (by omega)
theorem toCompS_eq (l : List S97) (hl : l.length ≤ 17592186044416) (k : Nat) (hk : l.length < k) : laws_toCompS.f k l = some (l.map cvC) := by
  unfold laws_toCompS.f
  rw [if_pos (by omega), if_pos (by omega)]
  exact toCompS_loop l hl l.length k 0 _ (by omega) (by simp) (fun j hj => by omega) hk
theorem eqCompS_loop (a : List S83) (hm : a.length ≤ 17592186044416) : ∀ (d k i : Nat), i + d = a.length → d < k → laws_eqCompS.l0 k a a (i : Int) = some true := by
  intro d
  induction d with
  | zero =>
    intro k i hi hk
    obtain ⟨k, rfl⟩ : ∃ m, k = m + 1 := ⟨k - 1, by omega⟩
    simp only [laws_eqCompS.l0]
    rw [if_neg (by omega)]
  | succ d ih =>
    intro k i hi hk
    obtain ⟨k, rfl⟩ : ∃ m, k = m + 1 := ⟨k - 1, by omega⟩
    simp only [laws_eqCompS.l0]
    rw [if_pos (by omega), if_pos (by omega), if_pos (by omega), wrap_id (by omega) (by omega)]
    simp only [laws_eqComp.f, if_true, Option.bind_some]
    exact ih k (i + 1) (by omega) (by omega)
theorem eqCompS_self (a : List S83) (hm : a.length ≤ 17592186044416) (k : Nat) (hk : a.length < k) : laws_eqCompS.f k a a = some true := by
  unfold laws_eqCompS.f
  rw [if_pos rfl]
  exact eqCompS_loop a hm a.length k 0 (by omega) hk
end Go.Proofs.Ytjnaokdncemggaa.PAll

end

section
namespace Go.Proofs.Ytjnaokdncemggaa.PAll
open Go.RowKit Go.Proofs.YtjnaokdncemggaaW.PrintWords Go.Proofs.YtjnaokdncemggaaW.PrintLast Go.Proofs.YtjnaokdncemggaaW.PrintMore
set_option linter.unusedVariables false
set_option linter.unusedSimpArgs false
inductive CT where
  | ret (n : Int)
  | ask (n : Int) (a b : CT)
def CT.size : CT → Int
  | .ret _ => 1
  | .ask _ a b => if 1000000 < 1 + a.size + b.size then 1000000 else 1 + a.size + b.size
theorem CT.size_bd (t : CT) : 1 ≤ t.size ∧ t.size ≤ 1000000 := by
  induction t with
  | ret n => simp [CT.size]
  | ask n a b iha ihb => unfold CT.size; split <;> omega
def CAt (w : World) : Nat → CT → Prop
  | g, .ret n => w.heap[g]? = some (.cells #[.int .i64 1, .int .i64 n, .pointer none, .pointer none, .int .i64 1] 103 (0, 0))
  | g, .ask n a b => ∃ p q, w.heap[g]? = some (.cells #[.int .i64 2, .int .i64 n, .pointer (some ⟨p, 0, none⟩), .pointer (some ⟨q, 0, none⟩), .int .i64 (CT.ask n a b).size] 103 (0, 0)) ∧ CAt w p a ∧ CAt w q b
theorem CAt.below {w w1 : World} (hb : Below w.heap.size w w1) : ∀ {t : CT} {g : Nat}, CAt w g t → CAt w1 g t := by
  intro t
  induction t with
  | ret n => intro g h; exact (hb.block g (blk_lt h)).trans h
  | ask n a b iha ihb => intro g h; obtain ⟨p, q, h, ha, hq⟩ := h; exact ⟨p, q, (hb.block g (blk_lt h)).trans h, iha ha, ihb hq⟩
theorem CAt.size_cell {w : World} {g : Nat} {t : CT} (h : CAt w g t) : w.cell? ⟨g, 4, none⟩ = some (.int .i64 t.size) := by
  cases t with
  | ret n => exact (an_ h 4).trans rfl
  | ask n a b => obtain ⟨p, q, h, _⟩ := h; exact (an_ h 4).trans rfl
set_option maxRecDepth 100000 in
theorem told_calls (n : Int) (w : World) (h0 : 0 ≤ n) (h1 : n ≤ 1000000) :
    Calls Try.prog 75 #[.int .i64 n] w fun e w' => ∃ g, e = .returned (.pointer (some ⟨g, 0, none⟩)) ∧ CAt w' g (.ret (n % 100)) ∧ Below w.heap.size w w' := by
  go_enter Try.func75, Try.ntmps75
  go_wp2
  go_ret
  exact ⟨_, rfl, blk_new w _, ai_ (av_ _ _) _⟩
set_option maxRecDepth 100000 in
theorem asks_calls (n : Int) (p q : Nat) (a b : CT) (w : World) (ha : CAt w p a) (hb : CAt w q b) :
    Calls Try.prog 93 #[.int .i64 n, .pointer (some ⟨p, 0, none⟩), .pointer (some ⟨q, 0, none⟩)] w fun e w' => ∃ g, e = .returned (.pointer (some ⟨g, 0, none⟩)) ∧ CAt w' g (.ask n a b) ∧ Below w.heap.size w w' := by
  have sa := ha.size_cell
  have sb := hb.size_cell
  have ba := a.size_bd
  have bb := b.size_bd
  by_cases hs : 1000000 < 1 + a.size + b.size
  · have e : (CT.ask n a b).size = 1000000 := by simp [CT.size, hs]
    have E := Lib.hid e
    clear e
    go_enter Try.func93, Try.ntmps93
    go_wp2
    go_region
    go_wp2
    go_ret
    refine ⟨_, rfl, ⟨p, q, by rw [E.out]; exact ae_ (blk_new w _), ha.below ?_, hb.below ?_⟩, ?_⟩ <;> exact below_drew (ai_ (av_ _ _) _)
  · have e : (CT.ask n a b).size = 1 + a.size + b.size := by simp [CT.size, hs]
    have E := Lib.hid e
    clear e
    go_enter Try.func93, Try.ntmps93
    go_wp2
    go_region
    go_wp2
    go_ret
    refine ⟨_, rfl, ⟨p, q, by rw [E.out]; exact ae_ (blk_new w _), ha.below ?_, hb.below ?_⟩, ?_⟩ <;> exact below_drew (ai_ (av_ _ _) _)
end Go.Proofs.Ytjnaokdncemggaa.PAll

end

section
namespace Go.Proofs.Ytjnaokdncemggaa.PAll
open Go.RowKit Go.Proofs.YtjnaokdncemggaaW.PrintWords Go.Proofs.YtjnaokdncemggaaW.PrintLast Go.Proofs.YtjnaokdncemggaaW.PrintMore
set_option linter.unusedVariables false
set_option linter.unusedSimpArgs false
theorem within_yes (n lo hi : Int) (w : World) (h0 : lo ≤ n) (h1 : n ≤ hi) : Calls Try.prog 59 #[.int .i64 n, .int .i64 lo, .int .i64 hi] w fun e w' => e = .returned (.bool true) ∧ w = w' := by
  have c0 : decide (lo ≤ n) = true := at_ h0
  have c1 : decide (n ≤ hi) = true := at_ h1
  clear h0 h1
  go_enter Try.func59, Try.ntmps59
  go_wp2
  go_ret
  exact ⟨rfl, rfl⟩
theorem within_no (n lo hi : Int) (w : World) (h : ¬ (lo ≤ n ∧ n ≤ hi)) : Calls Try.prog 59 #[.int .i64 n, .int .i64 lo, .int .i64 hi] w fun e w' => e = .returned (.bool false) ∧ w = w' := by
  by_cases h0 : lo ≤ n
  · have c0 : decide (lo ≤ n) = true := at_ h0
    have c1 : decide (n ≤ hi) = false := decide_eq_false (fun x => h ⟨h0, x⟩)
    clear h0 h
    go_enter Try.func59, Try.ntmps59
    go_wp2
    go_ret
    exact ⟨rfl, rfl⟩
  · have c0 : decide (lo ≤ n) = false := decide_eq_false h0
    clear h0 h
    go_enter Try.func59, Try.ntmps59
    go_wp2
    go_ret
    exact ⟨rfl, rfl⟩
def cparse : Nat → List S83 → Option (CT × List S83)
  | 0, _ => none
  | _ + 1, [] => none
  | k + 1, x :: r =>
    if x.f0 = 1 ∧ 0 ≤ x.f1 ∧ x.f1 ≤ 99 then some (.ret x.f1, r)
    else if x.f0 = 2 ∧ 0 ≤ x.f1 ∧ x.f1 ≤ 2 then
      match cparse k r with
      | none => none
      | some (a, r1) => match cparse k r1 with
        | none => none
        | some (b, r2) => some (.ask x.f1 a b, r2)
    else none
theorem cparse_len : ∀ (k : Nat) (l : List S83) (t : CT) (r : List S83), cparse k l = some (t, r) → r.length < l.length := by
  intro k
  induction k with
  | zero => intro l t r h; simp [cparse] at h
  | succ k ih =>
    intro l t r h
    cases l with
    | nil => simp [cparse] at h
    | cons x l =>
      simp only [cparse] at h
      split at h
      · simp at h; obtain ⟨_, rfl⟩ := h; simp
      · split at h
        · cases h1 : cparse k l with
          | none => rw [h1] at h; simp at h
          | some p =>
            obtain ⟨a, r1⟩ := p
            rw [h1] at h
            simp only at h
            cases h2 : cparse k r1 with
            | none => rw [h2] at h; simp at h
            | some q =>
              obtain ⟨b, r2⟩ := q
              rw [h2] at h
              simp at h
              obtain ⟨_, rfl⟩ := h
              have := ih _ _ _ h1
              have := ih _ _ _ h2
              simp; omega
        · simp at h
def CFrom (r : Option (CT × List S83)) (w : World) (e : Ending) (w' : World) : Prop :=
  Below w.heap.size w w' ∧ match r with
  | none => e = .returned (.tuple #[.pointer none, .slice none 0 0])
  | some (t, rest) => ∃ g A c, e = .returned (.tuple #[.pointer (some ⟨g, 0, none⟩), .slice A rest.length c]) ∧ CAt w' g t ∧ Kd.C k83 w' A rest.length rest ∧ rest.length ≤ c
set_option maxRecDepth 100000 in
set_option maxHeartbeats 1000000 in
theorem compFrom_calls (k : Nat) : ∀ (l : List S83) (A : Option Addr) (c : Nat) (w : World), l.length < k → Kd.C k83 w A l.length l → l.length ≤ c →
    Calls Try.prog 92 #[.slice A l.length c] w (CFrom (cparse k l) w) := by
  induction k with
  | zero => intro l A c w h; omega
  | succ k ih =>
    intro l A c w hk hr hc
    cases l with
    | nil =>
      go_enter Try.func92, Try.ntmps92
      go_wp2
      go_ret2
      exact ⟨av_ _ _, rfl⟩
    | cons x l =>
      simp only [List.length_cons] at hk hc hr ⊢
      obtain ⟨ad, rfl, hc0, hc1⟩ := at_T83 hr 0 (by omega) (by omega)
      have e0 : ad.add (Int.toNat 0 * 2) = ad := by simp [Addr.add]
      rw [e0, show rd_T83 (x :: l) 0 = x from rfl] at hc0 hc1
      clear e0
      obtain ⟨A1, hd, hcut⟩ : ∃ A1, Kd.C k83 w A1 l.length l ∧ ∀ W : World, (Instr.slice 36 (.slice (some ad) (l.length + 1) c) (some (.int .i64 1)) none none).run Try.prog W = .ok (.slice A1 l.length (c - 1)) W := by
        obtain ⟨i0, hi0, _, hsz, _⟩ := info_parts info83
        refine ⟨_, Kd.C_drop (k := k83) (m := 1) hr (by simp) hc, fun W => ?_⟩
        rw [cut_from (P := Try.prog) 36 83 .i64 Try.underlying36 hi0 2 hsz (some ad) (l.length + 1) c 1 (by omega) (by omega)]
        rfl
      have HD := Lib.hid hd
      have HR := Lib.hid hr
      have IH := Lib.hid ih
      clear hd hr ih
      have hd0 : ∀ o, (w.alloc o).cell? ad = some (.int .i64 x.f0) := fun o => (World.cell?_alloc_lt _ _ _ (aa_ w _ hc0)).trans hc0
      have hd1 : ∀ o, (w.alloc o).cell? ⟨ad.block, ad.off + 1, none⟩ = some (.int .i64 x.f1) := fun o => (World.cell?_alloc_lt _ _ _ (aa_ w _ hc1)).trans hc1
      by_cases h1 : x.f0 = 1 ∧ 0 ≤ x.f1 ∧ x.f1 ≤ 99
      · have e : cparse (k + 1) (x :: l) = some (.ret x.f1, l) := by simp only [cparse]; rw [if_pos h1]
        rw [e]
        clear e
        obtain ⟨a1, a2, a3⟩ := h1
        have b1 : (x.f0 == 1) = true := by simp [a1]
        clear a1
        go_enter Try.func92, Try.ntmps92
        go_wp2
        go_region
        go_wp2_with (first | (go_at_call 59; refine (within_yes _ _ _ _ a2 a3).mono ?_; rintro e w' ⟨rfl, rfl⟩) | (go_at_call 75; refine (told_calls _ _ a2 (by omega)).mono ?_; rintro e w' ⟨g, rfl, hg, hb⟩))
        go_ret2
        have hB : Below w.heap.size w w' := au_ (by repeat (first | exact av_ _ _ | apply ah_ | apply ai_)) hb
        rw [show x.f1 % 100 = x.f1 by omega] at hg
        exact ⟨hB, g, A1, c - 1, rfl, hg, Kd.C_below HD.out hB, by omega⟩
      · by_cases h2 : x.f0 = 2 ∧ 0 ≤ x.f1 ∧ x.f1 ≤ 2
        · obtain ⟨a1, a2, a3⟩ := h2
          have b1 : (x.f0 == 1) = false := by simp [a1]
          have b2 : (x.f0 != 2) = false := by simp [a1]
          have hp : cparse (k + 1) (x :: l) = match cparse k l with
              | none => none
              | some (a, r1) => match cparse k r1 with
                | none => none
                | some (b, r2) => some (.ask x.f1 a b, r2) := by simp only [cparse]; rw [if_neg h1, if_pos ⟨a1, a2, a3⟩]
          clear a1 h1
          cases hq : cparse k l with
          | none =>
            rw [hq] at hp
            rw [hp]
            clear hp
            have HQ := Lib.hid hq
            clear hq
            go_enter Try.func92, Try.ntmps92
            go_wp2
            go_region
            go_wp2_with (first | (go_at_call 59; refine (within_yes _ _ _ _ a2 a3).mono ?_; rintro e w' ⟨rfl, rfl⟩) | (go_at_call 92; refine (IH.out l A1 (c - 1) _ (by omega) (Kd.C_below HD.out (by repeat (first | exact av_ _ _ | apply ah_ | apply ai_))) (by omega)).mono ?_; rw [HQ.out]; rintro e w' ⟨hb, rfl⟩))
            go_ret2
            exact ⟨au_ (by repeat (first | exact av_ _ _ | apply ah_ | apply ai_)) hb, rfl⟩
          | some q =>
            obtain ⟨ta, r1⟩ := q
            have hl1 := cparse_len _ _ _ _ hq
            rw [hq] at hp
            simp only at hp
            have HQ := Lib.hid hq
            clear hq
            cases hq2 : cparse k r1 with
            | none =>
              rw [hq2] at hp
              rw [hp]
              clear hp
              have HQ2 := Lib.hid hq2
              clear hq2
              go_enter Try.func92, Try.ntmps92
              go_wp2
              go_region
              go_wp2_with (first | (go_at_call 59; refine (within_yes _ _ _ _ a2 a3).mono ?_; rintro e w' ⟨rfl, rfl⟩) | fail)
              refine (IH.out l A1 (c - 1) _ (by omega) (Kd.C_below HD.out (by repeat (first | exact av_ _ _ | apply ah_ | apply ai_))) (by omega)).mono ?_
              rw [HQ.out]
              rintro e w1 ⟨hb, g1, A2, c2, rfl, ha, hr1, hc2⟩
              go_wp2_with fail
              refine (IH.out r1 A2 c2 _ (by omega) hr1 hc2).mono ?_
              rw [HQ2.out]
              rintro e w2 ⟨hb2, rfl⟩
              go_wp2
              go_ret2
              exact ⟨au_ (au_ (by repeat (first | exact av_ _ _ | apply ah_ | apply ai_)) hb) hb2, rfl⟩
            | some q2 =>
              obtain ⟨tb, r2⟩ := q2
              rw [hq2] at hp
              rw [hp]
              clear hp
              have HQ2 := Lib.hid hq2
              clear hq2
              go_enter Try.func92, Try.ntmps92
              go_wp2
              go_region
              go_wp2_with (first | (go_at_call 59; refine (within_yes _ _ _ _ a2 a3).mono ?_; rintro e w' ⟨rfl, rfl⟩) | fail)
              refine (IH.out l A1 (c - 1) _ (by omega) (Kd.C_below HD.out (by repeat (first | exact av_ _ _ | apply ah_ | apply ai_))) (by omega)).mono ?_
              rw [HQ.out]
              rintro e w1 ⟨hb, g1, A2, c2, rfl, ha, hr1, hc2⟩
              have hx1 : w1.cell? ⟨w.heap.size, 1, none⟩ = some (.int .i64 x.f1) := (hb.cell (p := ⟨w.heap.size, 1, none⟩) (by simp)).trans (by simp)
              go_wp2_with fail
              refine (IH.out r1 A2 c2 _ (by omega) hr1 hc2).mono ?_
              rw [HQ2.out]
              rintro e w2 ⟨hb2, g2, A3, c3, rfl, hbb, hr2, hc3⟩
              have hx2 : w2.cell? ⟨w.heap.size, 1, none⟩ = some (.int .i64 x.f1) := (hb2.cell (p := ⟨w.heap.size, 1, none⟩) (aa_ w1 _ hx1)).trans hx1
              go_wp2_with (go_at_call 93; refine (asks_calls _ _ _ _ _ _ (ha.below hb2) hbb).mono ?_; rintro e w3 ⟨g3, rfl, hg, hb3⟩)
              go_ret2
              exact ⟨au_ (au_ (au_ (by repeat (first | exact av_ _ _ | apply ah_ | apply ai_)) hb) hb2) hb3, g3, A3, c3, rfl, hg, Kd.C_below hr2 hb3, hc3⟩
        · have e : cparse (k + 1) (x :: l) = none := by simp only [cparse]; rw [if_neg h1, if_neg h2]
          rw [e]
          clear e
          by_cases a1 : x.f0 = 1
          · have b1 : (x.f0 == 1) = true := by simp [a1]
            have b2 : (x.f0 != 2) = true := by simp [a1]
            have a2 : ¬ (0 ≤ x.f1 ∧ x.f1 ≤ 99) := fun z => h1 ⟨a1, z.1, z.2⟩
            have A2 := Lib.hid a2
            clear a1 h1 h2 a2
            go_enter Try.func92, Try.ntmps92
            go_wp2
            go_region
            go_wp2_with (go_at_call 59; refine (within_no _ _ _ _ A2.out).mono ?_; rintro e w' ⟨rfl, rfl⟩)
            go_ret2
            exact ⟨by repeat (first | exact av_ _ _ | apply ah_ | apply ai_), rfl⟩
          · have b1 : (x.f0 == 1) = false := by simp [a1]
            by_cases a2 : x.f0 = 2
            · have b2 : (x.f0 != 2) = false := by simp [a2]
              have a3 : ¬ (0 ≤ x.f1 ∧ x.f1 ≤ 2) := fun z => h2 ⟨a2, z.1, z.2⟩
              have A3 := Lib.hid a3
              clear a1 h1 h2 a2 a3
              go_enter Try.func92, Try.ntmps92
              go_wp2
              go_region
              go_wp2_with (go_at_call 59; refine (within_no _ _ _ _ A3.out).mono ?_; rintro e w' ⟨rfl, rfl⟩)
              go_ret2
              exact ⟨by repeat (first | exact av_ _ _ | apply ah_ | apply ai_), rfl⟩
            · have b2 : (x.f0 != 2) = true := by simp [a2]
              clear a1 h1 h2 a2
              go_enter Try.func92, Try.ntmps92
              go_wp2
              go_region
              go_wp2
              go_ret2
              exact ⟨by repeat (first | exact av_ _ _ | apply ah_ | apply ai_), rfl⟩
end Go.Proofs.Ytjnaokdncemggaa.PAll

end

section
namespace Go.Proofs.Ytjnaokdncemggaa.PAll
open Go.RowKit Go.Proofs.YtjnaokdncemggaaW.PrintWords Go.Proofs.YtjnaokdncemggaaW.PrintLast Go.Proofs.YtjnaokdncemggaaW.PrintMore
set_option linter.unusedVariables false
set_option linter.unusedSimpArgs false
def cof (l : List S83) : Option CT := if l.length ≤ 60 then match cparse 61 l with
  | some (t, []) => some t
  | _ => none
  else none
def COf (r : Option CT) (w : World) (e : Ending) (w' : World) : Prop :=
  Below w.heap.size w w' ∧ match r with
  | none => e = .returned (.pointer none)
  | some t => ∃ g, e = .returned (.pointer (some ⟨g, 0, none⟩)) ∧ CAt w' g t
set_option maxRecDepth 100000 in
theorem compOf_calls (l : List S83) (A : Option Addr) (c : Nat) (w : World) (hr : Kd.C k83 w A l.length l) (hc : l.length ≤ c) :
    Calls Try.prog 66 #[.slice A l.length c] w (COf (cof l) w) := by
  by_cases h60 : l.length ≤ 60
  · cases hq : cparse 61 l with
    | none =>
      have e : cof l = none := by simp [cof, h60, hq]
      rw [e]
      have HQ := Lib.hid hq
      clear hq e
      go_enter Try.func66, Try.ntmps66
      go_wp2_with (go_at_call 92; refine (compFrom_calls 61 l A c _ (by omega) hr hc).mono ?_; rw [HQ.out]; rintro e w1 ⟨hb, rfl⟩)
      go_ret
      exact ⟨hb, rfl⟩
    | some p =>
      obtain ⟨t, r⟩ := p
      cases r with
      | nil =>
        have e : cof l = some t := by simp [cof, h60, hq]
        rw [e]
        have HQ := Lib.hid hq
        clear hq e
        go_enter Try.func66, Try.ntmps66
        go_wp2_with (go_at_call 92; refine (compFrom_calls 61 l A c _ (by omega) hr hc).mono ?_; rw [HQ.out]; rintro e w1 ⟨hb, g, A1, c1, rfl, ha, hr1, hc1⟩; simp only [List.length_nil])
        go_ret
        exact ⟨hb, g, rfl, ha⟩
      | cons x r =>
        have e : cof l = none := by simp [cof, h60, hq]
        rw [e]
        have HQ := Lib.hid hq
        clear hq e
        go_enter Try.func66, Try.ntmps66
        go_wp2_with (go_at_call 92; refine (compFrom_calls 61 l A c _ (by omega) hr hc).mono ?_; rw [HQ.out]; rintro e w1 ⟨hb, g, A1, c1, rfl, ha, hr1, hc1⟩; simp only [List.length_cons])
        go_ret
        exact ⟨hb, rfl⟩
  · have e : cof l = none := by simp [cof, h60]
    rw [e]
    clear e
    have h61 : 60 < l.length := by omega
    clear h60
    go_enter Try.func66, Try.ntmps66
    go_wp2
    go_ret
    exact ⟨av_ _ _, rfl⟩
end Go.Proofs.Ytjnaokdncemggaa.PAll

end

section
namespace Go.Proofs.Ytjnaokdncemggaa.PAll
open Go.RowKit Go.Proofs.YtjnaokdncemggaaW.PrintWords Go.Proofs.YtjnaokdncemggaaW.PrintLast Go.Proofs.YtjnaokdncemggaaW.PrintMore
def cv : CT → S93
  | .ret n => ⟨false, n, []⟩
  | .ask n a b => ⟨true, n, [cv a, cv b]⟩
theorem l1In_eq (n lo hi : Int) : spec_l1In.f n lo hi = some (decide (lo ≤ n ∧ n ≤ hi)) := by
  unfold spec_l1In.f
  by_cases h : lo ≤ n <;> simp [h]
theorem rd83_drop (l : List S83) (i : Nat) (x : S83) (r : List S83) (h : l.drop i = x :: r) : rd_T83 l (i : Int) = x := by
  have : l[i]? = some x := by rw [← List.head?_drop, h]; rfl
  simp [rd_T83, List.getD_eq_getElem?_getD, this]
theorem l9Read_eq (l : List S83) (hm : l.length ≤ 1000) : ∀ (m : Nat) (i : Nat) (r : List S83), l.drop i = r → i ≤ l.length → r.length < m → ∀ k, 4 * m ≤ k →
    match cparse m r with
    | none => ∃ b n ks, spec_l9Read.f k l (i : Int) = some (b, n, ks, 0)
    | some (t, rest) => spec_l9Read.f k l (i : Int) = some ((cv t).f0, (cv t).f1, (cv t).f2, ((l.length - rest.length : Nat) : Int)) ∧ l.drop (l.length - rest.length) = rest := by
  intro m
  induction m with
  | zero => intro i r _ _ h; omega
  | succ m ih =>
    intro i r hr hi hrm k hk
    obtain ⟨k, rfl⟩ : ∃ q, k = q + 1 := ⟨k - 1, by omega⟩
    cases r with
    | nil =>
      have : l.length ≤ i := by have := congrArg List.length hr; simp at this; omega
      simp only [cparse]
      refine ⟨false, 0, [], ?_⟩
      simp only [spec_l9Read.f]
      rw [if_pos (by omega)]
    | cons x r =>
      have hlen : l.length - i = r.length + 1 := by have := congrArg List.length hr; simp at this; omega
      have hr1 : l.drop (i + 1) = r := by rw [← List.drop_drop, hr]; rfl
      have hx := rd83_drop l i x r hr
      have hS : spec_l9Read.f (k + 1) l (i : Int) = if x.f0 = 1 then (if decide (0 ≤ x.f1 ∧ x.f1 ≤ 99) = true then some (false, x.f1, ([] : List S93), (i : Int) + 1) else some (false, 0, [], 0)) else if x.f0 = 2 then (if decide (0 ≤ x.f1 ∧ x.f1 ≤ 2) = true then spec_l9Read.l0 k l ((i : Int) + 1) 0 true x.f1 [] else some (false, 0, [], 0)) else some (false, 0, [], 0) := by
        simp only [spec_l9Read.f]
        rw [if_neg (by omega), if_pos (by omega), if_pos (by omega), hx, wrap_id (by omega) (by omega)]
        simp only [l1In_eq, Option.bind_some]
      rw [hS]
      clear hS
      by_cases h1 : x.f0 = 1 ∧ 0 ≤ x.f1 ∧ x.f1 ≤ 99
      · have hc : cparse (m + 1) (x :: r) = some (.ret x.f1, r) := by simp only [cparse]; rw [if_pos h1]
        rw [hc]
        obtain ⟨a1, a2, a3⟩ := h1
        rw [if_pos a1, if_pos (by simp [a2, a3])]
        have e1 : l.length - r.length = i + 1 := by omega
        refine ⟨by rw [e1]; simp [cv], by rw [e1]; exact hr1⟩
      · by_cases h2 : x.f0 = 2 ∧ 0 ≤ x.f1 ∧ x.f1 ≤ 2
        · have hc : cparse (m + 1) (x :: r) = match cparse m r with
              | none => none
              | some (a, r1) => match cparse m r1 with
                | none => none
                | some (b, r2) => some (.ask x.f1 a b, r2) := by simp only [cparse]; rw [if_neg h1, if_pos h2] <;> rfl
          rw [hc]
          clear hc
          obtain ⟨a1, a2, a3⟩ := h2
          rw [if_neg (by omega), if_pos a1, if_pos (by simp [a2, a3])]
          obtain ⟨k, rfl⟩ : ∃ q, k = q + 1 := ⟨k - 1, by omega⟩
          simp only [spec_l9Read.l0]
          rw [if_pos (by omega)]
          have A := ih (i + 1) r hr1 (by omega) (by simp at hrm; omega) k (by omega)
          simp only [Int.natCast_add, Int.cast_ofNat_Int] at A
          cases hq : cparse m r with
          | none =>
            rw [hq] at A
            obtain ⟨b, n, ks, A⟩ := A
            simp only [A, Option.bind_some, if_true]
            exact ⟨false, 0, [], rfl⟩
          | some q =>
            obtain ⟨ta, r1⟩ := q
            rw [hq] at A
            obtain ⟨A, A'⟩ := A
            have hl1 := cparse_len _ _ _ _ hq
            simp only [A, Option.bind_some]
            rw [if_neg (by omega), if_pos (by simp), wrap_id (by omega) (by omega)]
            obtain ⟨k, rfl⟩ : ∃ q, k = q + 1 := ⟨k - 1, by omega⟩
            simp only [spec_l9Read.l0]
            rw [if_pos (by omega)]
            have B := ih (l.length - r1.length) r1 A' (by omega) (by simp at hrm; omega) k (by omega)
            cases hq2 : cparse m r1 with
            | none =>
              rw [hq2] at B
              obtain ⟨b, n, ks, B⟩ := B
              simp only [B, Option.bind_some, if_true]
              exact ⟨false, 0, [], rfl⟩
            | some q2 =>
              obtain ⟨tb, r2⟩ := q2
              rw [hq2] at B
              obtain ⟨B, B'⟩ := B
              have hl2 := cparse_len _ _ _ _ hq2
              simp only [B, Option.bind_some]
              rw [if_neg (by omega), if_pos (by simp), wrap_id (by omega) (by omega)]
              obtain ⟨k, rfl⟩ : ∃ q, k = q + 1 := ⟨k - 1, by omega⟩
              simp only [spec_l9Read.l0]
              rw [if_neg (by omega)]
              refine ⟨?_, B'⟩
              simp only [cv, List.nil_append, List.singleton_append]
              cases hta : cv ta
              cases htb : cv tb
              rfl
        · have hc : cparse (m + 1) (x :: r) = none := by simp only [cparse]; rw [if_neg h1, if_neg h2]
          rw [hc]
          clear hc
          by_cases a1 : x.f0 = 1
          · have a2 : ¬ (0 ≤ x.f1 ∧ x.f1 ≤ 99) := fun z => h1 ⟨a1, z.1, z.2⟩
            rw [if_pos a1, if_neg (by simpa using a2)]
            exact ⟨false, 0, [], rfl⟩
          · rw [if_neg a1]
            by_cases a2 : x.f0 = 2
            · have a3 : ¬ (0 ≤ x.f1 ∧ x.f1 ≤ 2) := fun z => h2 ⟨a2, z.1, z.2⟩
              rw [if_pos a2, if_neg (by simpa using a3)]
              exact ⟨false, 0, [], rfl⟩
            · rw [if_neg a2]
              exact ⟨false, 0, [], rfl⟩
theorem l9Tree_eq (l : List S83) (k : Nat) (hk : 244 ≤ k) : match cof l with
    | none => ∃ b n ks, spec_l9Tree.f k l = some (b, n, ks, false)
    | some t => spec_l9Tree.f k l = some ((cv t).f0, (cv t).f1, (cv t).f2, true) := by
  by_cases h : l.length ≤ 60
  · have hS : spec_l9Tree.f k l = (spec_l9Read.f k l 0).bind fun bt164 => (if bt164.2.2.2 > 0 then (some (bt164.1, bt164.2.1, bt164.2.2.1, (bt164.2.2.2 == (l.length : Int)))) else (some (bt164.1, bt164.2.1, bt164.2.2.1, false))) := by
      unfold spec_l9Tree.f
      rw [if_neg (by omega)]
    rw [hS]
    clear hS
    have R := l9Read_eq l (by omega) 61 0 l rfl (by omega) (by omega) k (by omega)
    cases hq : cparse 61 l with
    | none =>
      rw [hq] at R
      obtain ⟨b, n, ks, R⟩ := R
      have hc : cof l = none := by simp [cof, h, hq]
      simp only [Int.cast_ofNat_Int] at R
      rw [R, hc]
      exact ⟨b, n, ks, by simp⟩
    | some q =>
      obtain ⟨t, r⟩ := q
      rw [hq] at R
      obtain ⟨R, R'⟩ := R
      have hl := cparse_len _ _ _ _ hq
      simp only [Int.cast_ofNat_Int] at R
      rw [R]
      simp only [Option.bind_some]
      rw [if_pos (by omega)]
      cases r with
      | nil =>
        have hc : cof l = some t := by simp [cof, h, hq]
        rw [hc]
        simp
      | cons x r =>
        have hc : cof l = none := by simp [cof, h, hq]
        rw [hc]
        refine ⟨(cv t).f0, (cv t).f1, (cv t).f2, ?_⟩
        simp at hl ⊢
        omega
  · have hc : cof l = none := by simp [cof, h]
    rw [hc]
    unfold spec_l9Tree.f
    rw [if_pos (by omega)]
    exact ⟨_, _, _, rfl⟩
theorem GoodComp_eq (l : List S83) (k : Nat) (hk : 244 ≤ k) : spec_GoodComp.f k l = some (cof l).isSome := by
  have h := l9Tree_eq l k hk
  unfold spec_GoodComp.f
  cases hq : cof l with
  | none => rw [hq] at h; obtain ⟨b, n, ks, h⟩ := h; rw [h]; rfl
  | some t => rw [hq] at h; simp only at h; rw [h]; rfl
end Go.Proofs.Ytjnaokdncemggaa.PAll

end

section
namespace Go.Proofs.Ytjnaokdncemggaa.PAll
open Go.RowKit Go.Proofs.YtjnaokdncemggaaW.PrintWords Go.Proofs.YtjnaokdncemggaaW.PrintLast Go.Proofs.YtjnaokdncemggaaW.PrintMore
set_option linter.unusedVariables false
set_option linter.unusedSimpArgs false
def ccells : CT → List S83
  | .ret n => [⟨1, n⟩]
  | .ask n a b => ⟨2, n⟩ :: (ccells a ++ ccells b)
def CB (B : Nat) (w : World) : Nat → CT → Prop
  | g, .ret n => g < B ∧ w.heap[g]? = some (.cells #[.int .i64 1, .int .i64 n, .pointer none, .pointer none, .int .i64 1] 103 (0, 0))
  | g, .ask n a b => ∃ p q, g < B ∧ w.heap[g]? = some (.cells #[.int .i64 2, .int .i64 n, .pointer (some ⟨p, 0, none⟩), .pointer (some ⟨q, 0, none⟩), .int .i64 (CT.ask n a b).size] 103 (0, 0)) ∧ CB B w p a ∧ CB B w q b
theorem CAt.cb {w : World} : ∀ {t : CT} {g : Nat}, CAt w g t → CB w.heap.size w g t := by
  intro t
  induction t with
  | ret n => intro g h; exact ⟨blk_lt h, h⟩
  | ask n a b iha ihb => intro g h; obtain ⟨p, q, h, ha, hq⟩ := h; exact ⟨p, q, blk_lt h, h, iha ha, ihb hq⟩
theorem CB.keep {B : Nat} {w w1 : World} (hb : Below B w w1) : ∀ {t : CT} {g : Nat}, CB B w g t → CB B w1 g t := by
  intro t
  induction t with
  | ret n => intro g h; exact ⟨h.1, (hb.block g h.1).trans h.2⟩
  | ask n a b iha ihb => intro g h; obtain ⟨p, q, h0, h, ha, hq⟩ := h; exact ⟨p, q, h0, (hb.block g h0).trans h, iha ha, ihb hq⟩
theorem ccells_room {l : List S83} {n : Int} {a b : CT} (x : S83) (h : (l.length + (ccells (.ask n a b)).length) * 16 ≤ 140737488355328) :
    (l.length + 1) * 16 ≤ 140737488355328 ∧ ((l ++ [x]).length + (ccells a).length) * 16 ≤ 140737488355328 ∧ ((l ++ [x] ++ ccells a).length + (ccells b).length) * 16 ≤ 140737488355328 := by
  have e : (ccells (.ask n a b)).length = (ccells a).length + (ccells b).length + 1 := by simp [ccells]
  rw [e] at h
  simp only [List.length_append, List.length_singleton]
  omega
set_option maxRecDepth 100000 in
set_option maxHeartbeats 1000000 in
theorem cells_calls (B : Nat) (t : CT) : ∀ (g : Nat) (u : Value) (l : List S83) (w : World), CB B w g t → B ≤ w.heap.size → Kd.R k83 83 w B (fun _ => True) u l → (l.length + (ccells t).length) * 16 ≤ 140737488355328 →
    Calls Try.prog 94 #[.pointer (some ⟨g, 0, none⟩), u] w fun e w' => ∃ v, e = .returned v ∧ Kd.R k83 83 w' B (fun _ => True) v (l ++ ccells t) ∧ Below B w w' := by
  induction t with
  | ret n =>
    intro g u l w hg hB hu hl
    obtain ⟨hlt, hg⟩ := hg
    have c0 : w.cell? ⟨g, 0, none⟩ = some (.int .i64 1) := (an_ hg 0).trans rfl
    have c1 : w.cell? ⟨g, 1, none⟩ = some (.int .i64 n) := (an_ hg 1).trans rfl
    have HG := Lib.hid hg
    have HU := Lib.hid hu
    have HL0 : Hid ((l.length + 1) * 16 ≤ 140737488355328) := Lib.hid (by simp only [ccells, List.length_singleton] at hl; omega)
    clear hg hu hl
    go_enter Try.func94, Try.ntmps94
    go_wp2
    go_region_law (refine Kd.R_append_step k83 (w0 := w) (W := w.drew) B (by first | rfl | simp) (.tmp 5) (.tmp 15) 36 83 (.agg #[(.int .i64 0), (.int .i64 0)]) 16 (by rfl) Try.underlying36 info83 rfl (by decide) (by omega) u l (⟨1, n⟩ : S83) [.int .i64 1, .int .i64 n] (fun _ => True) (fun _ => False) (by simp [Act.eval, Act.put]) (by simp [Act.eval, Act.put]) (k83_mkM _ _ _ _) (fun _ h => h.elim) (fun _ _ => trivial) (aq_ HU.out) (by repeat (first | exact av_ _ _ | apply ah_)) hB HL0.out ?_; intro v1 w1 hu1 hb1 _ _; have c01 : w1.cell? ⟨g, 0, none⟩ = some (.int .i64 1) := (hb1.cell (p := ⟨g, 0, none⟩) hlt).trans c0; have HU1 := Lib.hid hu1; clear hu1)
    all_goals go_wp2
    all_goals go_ret
    all_goals exact ⟨v1, rfl, HU1.out, hb1⟩
  | ask n a b iha ihb =>
    intro g u l w hg hB hu hl
    have hgg := hg
    obtain ⟨p, q, hlt, hg, hp, hq⟩ := hg
    have c0 : w.cell? ⟨g, 0, none⟩ = some (.int .i64 2) := (an_ hg 0).trans rfl
    have c1 : w.cell? ⟨g, 1, none⟩ = some (.int .i64 n) := (an_ hg 1).trans rfl
    have c2 : w.cell? ⟨g, 2, none⟩ = some (.pointer (some ⟨p, 0, none⟩)) := (an_ hg 2).trans rfl
    have c3 : w.cell? ⟨g, 3, none⟩ = some (.pointer (some ⟨q, 0, none⟩)) := (an_ hg 3).trans rfl
    have HG := Lib.hid hg
    have HP := Lib.hid hp
    have HQ := Lib.hid hq
    have HU := Lib.hid hu
    have HR := ccells_room (⟨2, n⟩ : S83) hl
    have HL0 := Lib.hid HR.1
    have HL1 := Lib.hid HR.2.1
    have HL2 := Lib.hid HR.2.2
    clear HR
    have IA := Lib.hid iha
    have IB := Lib.hid ihb
    clear hg hu hl iha ihb hgg hp hq
    go_enter Try.func94, Try.ntmps94
    go_wp2
    go_region_law (refine Kd.R_append_step k83 (w0 := w) (W := w.drew) B (by first | rfl | simp) (.tmp 5) (.tmp 15) 36 83 (.agg #[(.int .i64 0), (.int .i64 0)]) 16 (by rfl) Try.underlying36 info83 rfl (by decide) (by omega) u l (⟨2, n⟩ : S83) [.int .i64 2, .int .i64 n] (fun _ => True) (fun _ => False) (by simp [Act.eval, Act.put]) (by simp [Act.eval, Act.put]) (k83_mkM _ _ _ _) (fun _ h => h.elim) (fun _ _ => trivial) (aq_ HU.out) (by repeat (first | exact av_ _ _ | apply ah_)) hB HL0.out ?_; intro v1 w1 hu1 hb1 _ _; have c01 : w1.cell? ⟨g, 0, none⟩ = some (.int .i64 2) := (hb1.cell (p := ⟨g, 0, none⟩) hlt).trans c0; have c21 : w1.cell? ⟨g, 2, none⟩ = some (.pointer (some ⟨p, 0, none⟩)) := (hb1.cell (p := ⟨g, 2, none⟩) hlt).trans c2; have c31 : w1.cell? ⟨g, 3, none⟩ = some (.pointer (some ⟨q, 0, none⟩)) := (hb1.cell (p := ⟨g, 3, none⟩) hlt).trans c3; have HU1 := Lib.hid hu1; clear hu1)
    all_goals have hs1 : B ≤ w1.heap.size := Nat.le_trans hB hb1.size
    all_goals go_wp2
    all_goals
      go_region_with (first
        | (go_at_call_of 94 p; refine (IA.out p v1 _ _ (HP.out.keep (by repeat (first | exact hb1 | apply ah_))) (by exact hs1) (aq_ HU1.out) HL1.out).mono ?_; rintro e w2 ⟨v2, rfl, hu2, hb2⟩; have hb12 := (ah_ hb1).trans hb2; have c32 : w2.cell? ⟨g, 3, none⟩ = some (.pointer (some ⟨q, 0, none⟩)) := (hb12.cell (p := ⟨g, 3, none⟩) hlt).trans c3)
        | (go_at_call_of 94 q; refine (IB.out q v2 _ _ (HQ.out.keep hb12) (by exact Nat.le_trans hB hb12.size) hu2 HL2.out).mono ?_; rintro e w3 ⟨v3, rfl, hu3, hb3⟩; have hb13 := hb12.trans hb3))
    all_goals go_wp2
    all_goals go_ret
    all_goals exact ⟨v3, rfl, by simpa [ccells] using hu3, hb13⟩
end Go.Proofs.Ytjnaokdncemggaa.PAll

end

section
namespace Go.Proofs.Ytjnaokdncemggaa.PAll
open Go.RowKit Go.Proofs.YtjnaokdncemggaaW.PrintWords Go.Proofs.YtjnaokdncemggaaW.PrintLast Go.Proofs.YtjnaokdncemggaaW.PrintMore
set_option linter.unusedVariables false
set_option linter.unusedSimpArgs false
def CT.sub (f : Int → CT) : CT → CT
  | .ret n => f n
  | .ask n a b => .ask n (a.sub f) (b.sub f)
def CT.ok : CT → Prop
  | .ret n => 0 ≤ n ∧ n ≤ 99
  | .ask _ a b => a.ok ∧ b.ok
theorem CT.cells_len (t : CT) : t.size < 1000000 → (ccells t).length = t.size.toNat := by
  induction t with
  | ret n => intro _; simp [ccells, CT.size]
  | ask n a b iha ihb =>
    intro h
    have ha := a.size_bd
    have hb := b.size_bd
    simp only [CT.size] at h
    split at h
    · omega
    · rename_i h1
      have e : (CT.ask n a b).size = 1 + a.size + b.size := by simp [CT.size, h1]
      rw [e]
      simp only [ccells, List.length_cons, List.length_append]
      rw [iha (by omega), ihb (by omega)]
      omega
def GoodPost (t : CT) (w : World) (e : Ending) (w' : World) : Prop := Below w.heap.size w w' ∧ if t.size ≤ 60 then ∃ v, e = .returned (.tuple #[v, .bool true]) ∧ Kd.R k83 83 w' w.heap.size (fun _ => True) v (ccells t) else e = .returned (.tuple #[.slice none 0 0, .bool false])
set_option maxRecDepth 100000 in
theorem good_calls (t : CT) (p : Nat) (w : World) (ht : CAt w p t) : Calls Try.prog 76 #[.pointer (some ⟨p, 0, none⟩)] w (GoodPost t w) := by
  have c4 := ht.size_cell
  have bd := t.size_bd
  by_cases h : t.size ≤ 60
  · have C := Lib.hid (cells_calls w.heap.size t p (.slice none 0 0) [] w ht.cb (Nat.le_refl _) (Kd.R_nil _ _ _ _ _) (by rw [CT.cells_len t (by omega)]; simp; omega))
    unfold GoodPost
    simp only [if_pos h]
    have d4 : decide ((60 : Int) < t.size) = false := decide_eq_false (by omega)
    clear ht
    go_enter Try.func76, Try.ntmps76
    go_wp2_with (go_at_call 94; refine C.out.mono ?_; rintro e w' ⟨v, rfl, hv, hb⟩)
    go_ret2
    exact ⟨hb, v, rfl, by simpa using hv⟩
  · unfold GoodPost
    simp only [if_neg h]
    have d4 : decide ((60 : Int) < t.size) = true := at_ (by omega)
    clear ht
    go_enter Try.func76, Try.ntmps76
    go_wp2
    go_ret2
    exact ⟨av_ _ _, rfl⟩
end Go.Proofs.Ytjnaokdncemggaa.PAll

end

section
namespace Go.Proofs.Ytjnaokdncemggaa.PAll
open Go.RowKit Go.Proofs.YtjnaokdncemggaaW.PrintWords Go.Proofs.YtjnaokdncemggaaW.PrintLast Go.Proofs.YtjnaokdncemggaaW.PrintMore
set_option linter.unusedVariables false
set_option linter.unusedSimpArgs false
abbrev Clo (fn g : Nat) (f : Int → CT) (w0 : World) : Prop := ∀ (n : Int) (W : World), 0 ≤ n → n ≤ 99 → Below w0.heap.size w0 W →
  Calls Try.prog fn #[.int .i64 n, .pointer (some ⟨g, 0, none⟩)] W fun e w' => ∃ q, e = .returned (.pointer (some ⟨q, 0, none⟩)) ∧ CAt w' q (f n) ∧ Below W.heap.size W w'
set_option maxRecDepth 100000 in
set_option maxHeartbeats 2000000 in
theorem then_calls (fn g : Nat) (f : Int → CT) (w0 : World) (hen : ∀ args W, (callFunc fn args).run Try.prog W = .ok (.enter fn args) W) (hf : Clo fn g f w0) (t : CT) : ∀ (p : Nat) (w : World), CAt w p t → t.ok → Below w0.heap.size w0 w →
    Calls Try.prog 73 #[.pointer (some ⟨p, 0, none⟩), .func (.func fn) #[] #[.pointer (some ⟨g, 0, none⟩)]] w fun e w' => ∃ q, e = .returned (.pointer (some ⟨q, 0, none⟩)) ∧ CAt w' q (t.sub f) ∧ Below w.heap.size w w' := by
  have HF := Lib.hid hf
  clear hf
  induction t with
  | ret n =>
    intro p w ht ho hg
    have c0 : w.cell? ⟨p, 0, none⟩ = some (.int .i64 1) := (an_ ht 0).trans rfl
    have c1 : w.cell? ⟨p, 1, none⟩ = some (.int .i64 n) := (an_ ht 1).trans rfl
    have HG := Lib.hid hg
    have o0 := ho.1
    have o1 := ho.2
    clear ht ho hg
    go_enter Try.func73, Try.ntmps73
    go_wp2_with ((with_reducible refine (HF.out n _ o0 o1 HG.out).mono ?_); rintro e w' ⟨q, rfl, hq, hb⟩)
    go_ret
    exact ⟨q, rfl, hq, hb⟩
  | ask n a b iha ihb =>
    intro p w ht ho hg
    obtain ⟨pa, pb, hp, ha, hb⟩ := ht
    have c0 : w.cell? ⟨p, 0, none⟩ = some (.int .i64 2) := (an_ hp 0).trans rfl
    have c1 : w.cell? ⟨p, 1, none⟩ = some (.int .i64 n) := (an_ hp 1).trans rfl
    have c2 : w.cell? ⟨p, 2, none⟩ = some (.pointer (some ⟨pa, 0, none⟩)) := (an_ hp 2).trans rfl
    have c3 : w.cell? ⟨p, 3, none⟩ = some (.pointer (some ⟨pb, 0, none⟩)) := (an_ hp 3).trans rfl
    have hlt := blk_lt hp
    have SS := Lib.hid (show ∀ W : World, Below w.heap.size w W → W.cell? ⟨p, 1, none⟩ = some (.int .i64 n) ∧ W.cell? ⟨p, 2, none⟩ = some (.pointer (some ⟨pa, 0, none⟩)) ∧ W.cell? ⟨p, 3, none⟩ = some (.pointer (some ⟨pb, 0, none⟩)) from fun W hW => ⟨(hW.cell (p := ⟨p, 1, none⟩) hlt).trans c1, (hW.cell (p := ⟨p, 2, none⟩) hlt).trans c2, (hW.cell (p := ⟨p, 3, none⟩) hlt).trans c3⟩)
    have S4 := SS.out w.drew (ah_ (av_ _ _))
    have C0 := Lib.hid (iha pa w.drew (ha.below (ah_ (av_ _ _))) ho.1 (ah_ hg))
    have IB := Lib.hid ihb
    have HB := Lib.hid hb
    have HO := Lib.hid ho.2
    have HG := Lib.hid hg
    clear iha ihb ha hb ho hp hg
    go_enter Try.func73, Try.ntmps73
    go_wp2
    go_region_held3 (fun W => W.cell? ⟨p, 1, none⟩ = some (.int .i64 n) ∧ W.cell? ⟨p, 2, none⟩ = some (.pointer (some ⟨pa, 0, none⟩)) ∧ W.cell? ⟨p, 3, none⟩ = some (.pointer (some ⟨pb, 0, none⟩))) (first | (with_reducible exact S4) | (with_reducible exact S5) | (with_reducible exact S6) | (with_reducible exact S7))
      (first
      | (go_at_call 73; (with_reducible refine C0.out.mono ?_); rintro e w5 ⟨qa, rfl, hqa, hb5⟩; have B5 := Lib.hid (au_ (ah_ (av_ _ _)) hb5); have S5 := SS.out w5 B5.out; have QA := Lib.hid hqa; have C1 := Lib.hid (IB.out pb w5 (HB.out.below B5.out) HO.out (au_ HG.out B5.out)); clear hqa hb5)
      | (go_at_call 73; (with_reducible refine C1.out.mono ?_); rintro e w6 ⟨qb, rfl, hqb, hb6⟩; have B6 := Lib.hid (au_ B5.out hb6); have S6 := SS.out w6 B6.out; have C2 := Lib.hid (asks_calls n qa qb _ _ w6 (QA.out.below hb6) hqb); clear hqb hb6)
      | (go_at_call 93; (with_reducible refine C2.out.mono ?_); rintro e w7 ⟨q, rfl, hq, hb7⟩; have B7 := Lib.hid (au_ B6.out hb7); have S7 := SS.out w7 B7.out; have Q7 := Lib.hid hq; clear hq hb7))
    all_goals go_wp2
    all_goals go_ret
    all_goals exact ⟨q, rfl, Q7.out, B7.out⟩
theorem cparse_ok : ∀ (k : Nat) (l : List S83) (t : CT) (r : List S83), cparse k l = some (t, r) → t.ok := by
  intro k
  induction k with
  | zero => intro l t r h; simp [cparse] at h
  | succ k ih =>
    intro l t r h
    cases l with
    | nil => simp [cparse] at h
    | cons x l =>
      simp only [cparse] at h
      split at h
      · rename_i h1
        simp at h; obtain ⟨rfl, rfl⟩ := h; exact ⟨h1.2.1, h1.2.2⟩
      · split at h
        · cases h1 : cparse k l with
          | none => rw [h1] at h; simp at h
          | some p =>
            obtain ⟨a, r1⟩ := p
            rw [h1] at h
            simp only at h
            cases h2 : cparse k r1 with
            | none => rw [h2] at h; simp at h
            | some q =>
              obtain ⟨b, r2⟩ := q
              rw [h2] at h
              simp at h
              obtain ⟨rfl, rfl⟩ := h
              exact ⟨ih _ _ _ h1, ih _ _ _ h2⟩
        · simp at h
theorem cof_ok {l : List S83} {t : CT} (h : cof l = some t) : t.ok := by
  unfold cof at h
  split at h
  · split at h
    · rename_i h1
      injection h with h
      subst h
      exact cparse_ok _ _ _ _ h1
    · cases h
  · cases h
def RowPost (r : List S83 × Bool) (w : World) (e : Ending) (w' : World) : Prop := ∃ v, e = .returned (.tuple #[v, .bool r.2]) ∧ Kd.R k83 83 w' w.heap.size (fun _ => True) v r.1 ∧ Below w.heap.size w w'
def goodOf (t : CT) : List S83 × Bool := if t.size ≤ 60 then (ccells t, true) else ([], false)
theorem good_row (t : CT) (p : Nat) (w : World) (ht : CAt w p t) : Calls Try.prog 76 #[.pointer (some ⟨p, 0, none⟩)] w (RowPost (goodOf t) w) := by
  refine (good_calls t p w ht).mono ?_
  rintro e w' ⟨hb, h⟩
  unfold RowPost goodOf
  split at h
  · rename_i hs
    obtain ⟨v, rfl, hv⟩ := h
    simp only [if_pos hs]
    exact ⟨v, rfl, hv, hb⟩
  · rename_i hs
    subst h
    simp only [if_neg hs]
    exact ⟨_, rfl, Kd.R_nil _ _ _ _ _, hb⟩
theorem RowPost.lower {r : List S83 × Bool} {w w1 : World} (hb : Below w.heap.size w w1) {e : Ending} {w' : World} (h : RowPost r w1 e w') : RowPost r w e w' := by
  obtain ⟨v, he, hv, hb1⟩ := h
  exact ⟨v, he, Kd.R_lower hv hb.size, au_ hb hb1⟩
def addF (by_ : Int) (n : Int) : CT := .ret ((n + by_) % 100)
end Go.Proofs.Ytjnaokdncemggaa.PAll

end

section
namespace Go.Proofs.Ytjnaokdncemggaa.PAll
open Go.RowKit Go.Proofs.YtjnaokdncemggaaW.PrintWords Go.Proofs.YtjnaokdncemggaaW.PrintLast Go.Proofs.YtjnaokdncemggaaW.PrintMore
set_option linter.unusedVariables false
set_option linter.unusedSimpArgs false
theorem CAt.far {w : World} {b e : Nat} {arr : Array Value} (hb : w.heap[b]? = some (.cells arr e (0, 0))) (he : e ≠ 103) (j : Nat) (v : Value) : ∀ {t : CT} {g : Nat}, CAt w g t → CAt (w.setCell ⟨b, j, none⟩ v) g t := by
  have ne : ∀ {g : Nat} {cs : Array Value}, w.heap[g]? = some (.cells cs 103 (0, 0)) → (w.setCell ⟨b, j, none⟩ v).heap[g]? = w.heap[g]? := by
    intro g cs h
    refine Below.heap_setCell w ⟨b, j, none⟩ v g ?_
    rintro rfl
    rw [h] at hb
    injection hb with hb
    injection hb with _ hb
    exact he hb.symm
  intro t
  induction t with
  | ret n => intro g h; exact (ne h).trans h
  | ask n a b iha ihb => intro g h; obtain ⟨p, q, h, ha, hq⟩ := h; exact ⟨p, q, (ne h).trans h, iha ha, ihb hq⟩
def LRow (w : World) (b : Nat) (ts : List CT) : Prop := ∃ arr : Array Value, w.heap[b]? = some (.cells arr 98 (0, 0)) ∧ arr.size = 100 ∧ ∀ (j : Nat) (t : CT), ts[j]? = some t → ∃ g, arr[j]? = some (Value.pointer (some ⟨g, 0, none⟩)) ∧ CAt w g t
theorem LRow.below {w w1 : World} {b : Nat} {ts : List CT} (h : LRow w b ts) (hb : Below w.heap.size w w1) : LRow w1 b ts := by
  obtain ⟨arr, h0, h1, h2⟩ := h
  refine ⟨arr, (hb.block b (blk_lt h0)).trans h0, h1, fun j t ht => ?_⟩
  obtain ⟨g, hg, hc⟩ := h2 j t ht
  exact ⟨g, hg, hc.below hb⟩
theorem LRow.snoc {w w1 : World} {b : Nat} {ts : List CT} {g : Nat} {t : CT} (h : LRow w b ts) (hb : Below w.heap.size w w1) (ht : CAt w1 g t) (hl : ts.length < 100) : LRow (w1.setCell ⟨b, ts.length, none⟩ (.pointer (some ⟨g, 0, none⟩))) b (ts ++ [t]) := by
  obtain ⟨arr, h0, h1, h2⟩ := h
  have h0' := (hb.block b (blk_lt h0)).trans h0
  refine ⟨arr.setIfInBounds ts.length (.pointer (some ⟨g, 0, none⟩)), blk_set h0' _ _, by simpa using h1, fun j u hu => ?_⟩
  by_cases hj : j < ts.length
  · rw [List.getElem?_append_left hj] at hu
    obtain ⟨q, hq, hc⟩ := h2 j u hu
    exact ⟨q, by rw [Array.getElem?_setIfInBounds_ne (by omega)]; exact hq, CAt.far h0' (by decide) _ _ (hc.below hb)⟩
  · rw [List.getElem?_append_right (by omega)] at hu
    obtain ⟨rfl, rfl⟩ : j = ts.length ∧ t = u := by
      rcases Nat.eq_zero_or_pos (j - ts.length) with e | e
      · rw [e] at hu; simp at hu; exact ⟨by omega, hu⟩
      · rw [List.getElem?_eq_none (by simp; omega)] at hu; cases hu
    exact ⟨g, by rw [Array.getElem?_setIfInBounds_self_of_lt (by omega)], CAt.far h0' (by decide) _ _ ht⟩
def CT.aok : CT → Prop
  | .ret _ => True
  | .ask n a b => (0 ≤ n ∧ n ≤ 2) ∧ a.aok ∧ b.aok
theorem cparse_aok : ∀ (k : Nat) (l : List S83) (t : CT) (r : List S83), cparse k l = some (t, r) → t.aok := by
  intro k
  induction k with
  | zero => intro l t r h; simp [cparse] at h
  | succ k ih =>
    intro l t r h
    cases l with
    | nil => simp [cparse] at h
    | cons x l =>
      simp only [cparse] at h
      split at h
      · simp at h; obtain ⟨rfl, rfl⟩ := h; exact trivial
      · split at h
        · rename_i h2
          cases h1 : cparse k l with
          | none => rw [h1] at h; simp at h
          | some p =>
            obtain ⟨a, r1⟩ := p
            rw [h1] at h
            simp only at h
            cases h3 : cparse k r1 with
            | none => rw [h3] at h; simp at h
            | some q =>
              obtain ⟨b, r2⟩ := q
              rw [h3] at h
              simp at h
              obtain ⟨rfl, rfl⟩ := h
              exact ⟨h2.2, ih _ _ _ h1, ih _ _ _ h3⟩
        · simp at h
theorem cof_aok {l : List S83} {t : CT} (h : cof l = some t) : t.aok := by
  unfold cof at h
  split at h
  · split at h
    · rename_i h1
      injection h with h
      subst h
      exact cparse_aok _ _ _ _ h1
    · cases h
  · cases h
end Go.Proofs.Ytjnaokdncemggaa.PAll

end

section
namespace Go.Proofs.Ytjnaokdncemggaa.PAll
open Go.RowKit Go.Proofs.YtjnaokdncemggaaW.PrintWords Go.Proofs.YtjnaokdncemggaaW.PrintLast Go.Proofs.YtjnaokdncemggaaW.PrintMore
set_option linter.unusedVariables false
set_option linter.unusedSimpArgs false
def ruleB (x : S82) : Bool := if x.f0 = 4 then decide (0 ≤ x.f1 ∧ x.f1 ≤ 99) else decide ((1 ≤ x.f0 ∧ x.f0 ≤ 5) ∧ x.f1 = 0)
set_option maxRecDepth 100000 in
theorem ruleOk_calls (x : S82) (w : World) : Calls Try.prog 62 #[.agg #[.int .i64 x.f0, .int .i64 x.f1]] w fun e w' => e = .returned (.bool (ruleB x)) ∧ Below w.heap.size w w' := by
  by_cases h4 : x.f0 = 4
  · have b4 : (x.f0 == 4) = true := by simp [h4]
    by_cases h : 0 ≤ x.f1 ∧ x.f1 ≤ 99
    · have e : ruleB x = true := by simp [ruleB, h4, h]
      rw [e]
      obtain ⟨h0, h1⟩ := h
      clear h4 e
      go_enter Try.func62, Try.ntmps62
      go_wp2_with (go_at_call 59; refine (within_yes _ _ _ _ h0 h1).mono ?_; rintro e w' ⟨rfl, rfl⟩)
      go_ret
      exact ⟨rfl, ai_ (av_ _ _) _⟩
    · have e : ruleB x = false := by simp only [ruleB]; rw [if_pos h4]; simpa using h
      rw [e]
      have H := Lib.hid h
      clear h4 e h
      go_enter Try.func62, Try.ntmps62
      go_wp2_with (go_at_call 59; refine (within_no _ _ _ _ H.out).mono ?_; rintro e w' ⟨rfl, rfl⟩)
      go_ret
      exact ⟨rfl, ai_ (av_ _ _) _⟩
  · have b4 : (x.f0 == 4) = false := by simp [h4]
    by_cases h : 1 ≤ x.f0 ∧ x.f0 ≤ 5
    · have e : ruleB x = (x.f1 == 0) := by simp only [ruleB]; rw [if_neg h4]; by_cases h5 : x.f1 = 0 <;> simp [h, h5]
      obtain ⟨h0, h1⟩ := h
      have E := Lib.hid e
      clear h4 e
      go_enter Try.func62, Try.ntmps62
      go_wp2_with (go_at_call 59; refine (within_yes _ _ _ _ h0 h1).mono ?_; rintro e w' ⟨rfl, rfl⟩)
      go_ret
      exact ⟨by rw [E.out]; rfl, ai_ (av_ _ _) _⟩
    · have e : ruleB x = false := by simp only [ruleB]; rw [if_neg h4]; simp only [decide_eq_false_iff_not]; exact fun z => h z.1
      rw [e]
      have H := Lib.hid h
      clear h4 e h
      go_enter Try.func62, Try.ntmps62
      go_wp2_with (go_at_call 59; refine (within_no _ _ _ _ H.out).mono ?_; rintro e w' ⟨rfl, rfl⟩)
      go_ret
      exact ⟨rfl, ai_ (av_ _ _) _⟩
theorem notRuleOk_calls (x : S82) (w : World) : Calls Try.prog 61 #[.agg #[.int .i64 x.f0, .int .i64 x.f1]] w fun e w' => e = .returned (.bool (!ruleB x)) ∧ Below w.heap.size w w' := by
  go_enter Try.func61, Try.ntmps61
  go_wp2_with (go_at_call 62; refine (ruleOk_calls x _).mono ?_; rintro e w' ⟨rfl, hb⟩)
  go_ret
  exact ⟨rfl, au_ (ai_ (av_ _ _) _) hb⟩
set_option maxRecDepth 100000 in
set_option maxHeartbeats 1000000 in
theorem indexRule_calls (l : List S82) (A : Option Addr) (c : Nat) (w : World) (hr : Kd.C k82 w A l.length l) (hc : l.length ≤ c) :
    Calls Try.prog 89 #[.slice A l.length c, .func (.func 61) #[] #[]] w fun e w' => (∃ n : Int, e = .returned (.int .i64 n) ∧ (0 ≤ n ↔ l.any (fun x => !ruleB x) = true)) ∧ Below w.heap.size w w' := by
  have hm := hr.2.1
  have HR := Lib.hid hr
  clear hr
  go_enter Try.func89, Try.ntmps89
  go_wp2
  go_loopw [5, 8] (fun v5 v8 wr => ∃ k : Nat, k ≤ l.length ∧ v8 = .int .i64 k ∧ Hid (∀ x ∈ l.take k, ruleB x = true) ∧ Below w.heap.size w wr) (fun _ v8 _ => l.length - (intOf v8).toNat)
  case atStart => exact ⟨0, Nat.zero_le _, rfl, Lib.hid (by simp), av_ _ _⟩
  case round =>
    obtain ⟨k, hk, rfl, HA, HB⟩ := hrel
    by_cases hlt : k < l.length
    · obtain ⟨ad, hA, hc0, hc1⟩ := at_T82 (Kd.C_below HR.out HB) (k : Int) (by omega) (by omega)
      subst hA
      obtain ⟨x, hx⟩ : ∃ x, x = rd_T82 l (k : Int) := ⟨_, rfl⟩
      rw [← hx] at hc0 hc1
      simp only [Int.toNat_natCast] at hc0 hc1
      have hxl : l[k]? = some x := by rw [hx, rd_T82, List.getD_eq_getElem?_getD]; simp [List.getElem?_eq_getElem hlt]
      have HX := Lib.hid hxl
      clear hx hxl
      cases hb : ruleB x with
      | true =>
        have HBX := Lib.hid hb
        clear hb
        go_wp2_with (go_at_call 61; refine (notRuleOk_calls x _).mono ?_; rw [HBX.out]; rintro e w' ⟨rfl, hbw⟩)
        go_roundw
        case rel =>
          refine ⟨k + 1, by omega, by go_num, Lib.hid ?_, au_ HB hbw⟩
          intro y hy
          rw [List.take_add_one, HX.out] at hy
          simp at hy
          rcases hy with hy | rfl
          · exact HA.out y hy
          · exact HBX.out
        case measure => simp [intOf]; omega
      | false =>
        have HBX := Lib.hid hb
        clear hb
        go_wp2_with (go_at_call 61; refine (notRuleOk_calls x _).mono ?_; rw [HBX.out]; rintro e w' ⟨rfl, hbw⟩)
        go_ret
        refine ⟨⟨k, rfl, ?_⟩, au_ HB hbw⟩
        have : x ∈ l := List.mem_of_getElem? HX.out
        simp only [List.any_eq_true]
        exact ⟨fun _ => ⟨x, this, by simp [HBX.out]⟩, fun _ => by omega⟩
    · have : k = l.length := by omega
      subst this
      go_wp2
      go_ret
      refine ⟨⟨-1, rfl, ?_⟩, HB⟩
      have := HA.out
      rw [List.take_length] at this
      simp only [List.any_eq_true]
      constructor
      · intro h; omega
      · rintro ⟨x, hx, h⟩
        rw [this x hx] at h
        cases h
theorem containsRule_calls (l : List S82) (A : Option Addr) (c : Nat) (w : World) (hr : Kd.C k82 w A l.length l) (hc : l.length ≤ c) :
    Calls Try.prog 60 #[.slice A l.length c, .func (.func 61) #[] #[]] w fun e w' => e = .returned (.bool (l.any (fun x => !ruleB x))) ∧ Below w.heap.size w w' := by
  have HR := Lib.hid hr
  clear hr
  cases hb : l.any (fun x => !ruleB x) with
  | true =>
    have H := Lib.hid hb
    clear hb
    go_enter Try.func60, Try.ntmps60
    go_wp2_with (go_at_call 89; refine (indexRule_calls l A c _ HR.out hc).mono ?_; rw [H.out]; rintro e w' ⟨⟨n, rfl, hn⟩, hbw⟩; have hn0 : 0 ≤ n := hn.2 rfl; clear hn)
    go_ret
    exact ⟨by simp [hn0], hbw⟩
  | false =>
    have H := Lib.hid hb
    clear hb
    go_enter Try.func60, Try.ntmps60
    go_wp2_with (go_at_call 89; refine (indexRule_calls l A c _ HR.out hc).mono ?_; rw [H.out]; rintro e w' ⟨⟨n, rfl, hn⟩, hbw⟩; have hn0 : ¬ 0 ≤ n := fun z => Bool.noConfusion (hn.1 z); clear hn)
    go_ret
    exact ⟨by simp; omega, hbw⟩
def goodHB (ret : Int) (l : List S82) : Bool := decide (0 ≤ ret ∧ ret ≤ 99) && decide (l.length = 3) && l.all ruleB
set_option maxRecDepth 100000 in
set_option maxHeartbeats 1000000 in
theorem GoodHandler_calls (ret : Int) (l : List S82) (A : Option Addr) (c : Nat) (w : World) (hr : Kd.C k82 w A l.length l) (hc : l.length ≤ c) :
    Calls Try.prog 16 #[.agg #[.int .i64 ret, .slice A l.length c]] w fun e w' => e = .returned (.bool (goodHB ret l)) ∧ Below w.heap.size w w' := by
  have HR := Lib.hid hr
  clear hr
  by_cases h : 0 ≤ ret ∧ ret ≤ 99
  · obtain ⟨h0, h1⟩ := h
    by_cases h3 : l.length = 3
    · have b3 : ((l.length : Int) != 3) = false := by simp; omega
      have e : goodHB ret l = !(l.any (fun x => !ruleB x)) := by
        simp only [goodHB, h0, h1, h3, and_self, decide_true, Bool.true_and]
        rw [List.not_any_eq_all_not]; simp
      have E := Lib.hid e
      clear e h3
      go_enter Try.func16, Try.ntmps16
      go_wp2_with (first | (go_at_call 59; refine (within_yes _ _ _ _ h0 h1).mono ?_; rintro e w' ⟨rfl, rfl⟩) | (go_at_call 60; refine (containsRule_calls l A c _ (Kd.C_below HR.out (ai_ (av_ _ _) _)) hc).mono ?_; rintro e w' ⟨rfl, hb⟩))
      go_ret
      exact ⟨by rw [E.out]; rfl, au_ (ai_ (av_ _ _) _) hb⟩
    · have b3 : ((l.length : Int) != 3) = true := by simp; omega
      have e : goodHB ret l = false := by simp [goodHB, h3]
      rw [e]
      clear e h3
      go_enter Try.func16, Try.ntmps16
      go_wp2_with (go_at_call 59; refine (within_yes _ _ _ _ h0 h1).mono ?_; rintro e w' ⟨rfl, rfl⟩)
      go_ret
      exact ⟨rfl, ai_ (av_ _ _) _⟩
  · have e : goodHB ret l = false := by simp only [goodHB]; rw [decide_eq_false h]; rfl
    rw [e]
    have H := Lib.hid h
    clear e h
    go_enter Try.func16, Try.ntmps16
    go_wp2_with (go_at_call 59; refine (within_no _ _ _ _ H.out).mono ?_; rintro e w' ⟨rfl, rfl⟩)
    go_ret
    exact ⟨rfl, ai_ (av_ _ _) _⟩
end Go.Proofs.Ytjnaokdncemggaa.PAll

end

section
namespace Go.Proofs.Ytjnaokdncemggaa.PAll
open Go.RowKit Go.Proofs.YtjnaokdncemggaaW.PrintWords Go.Proofs.YtjnaokdncemggaaW.PrintLast Go.Proofs.YtjnaokdncemggaaW.PrintMore
set_option linter.unusedVariables false
set_option linter.unusedSimpArgs false
theorem enters97 : ∀ args W, (callFunc 97 args).run Try.prog W = .ok (.enter 97 args) W := fun args W => enters_ (P := Try.prog) (f := 97) Try.func97 (by kernel_rfl) rfl args W
theorem enters98 : ∀ args W, (callFunc 98 args).run Try.prog W = .ok (.enter 98 args) W := fun args W => enters_ (P := Try.prog) (f := 98) Try.func98 (by kernel_rfl) rfl args W
set_option maxRecDepth 100000 in
theorem clo98 (g : Nat) (n : Int) (w0 : World) (h : w0.heap[g]? = some (.cells #[.int .i64 n] 3 (0, 0))) (b0 : 0 ≤ n) (b1 : n ≤ 99) : Clo 98 g (addF n) w0 := by
  intro m W h0 h1 hb
  have c0 : W.cell? ⟨g, 0, none⟩ = some (.int .i64 n) := (an_ ((hb.block g (blk_lt h)).trans h) 0).trans rfl
  clear hb h
  unfold addF
  go_enter Try.func98, Try.ntmps98
  go_wp2_with (go_at_call 75; refine (told_calls (m + n) _ (by omega) (by omega)).mono ?_; rintro e w' ⟨p, rfl, hp, hb⟩)
  go_ret
  exact ⟨p, rfl, hp, hb⟩
theorem addF_ok {by_ : Int} (b0 : 0 ≤ by_) (b1 : by_ ≤ 99) : ∀ n, 0 ≤ n → n ≤ 99 → (addF by_ n).ok := fun n h0 h1 => by unfold addF CT.ok; omega
def bothF (s : CT) (n : Int) : CT := s.sub (addF n)
set_option maxRecDepth 100000 in
theorem clo97 (g q : Nat) (s : CT) (w0 : World) (h : w0.heap[g]? = some (.cells #[.pointer (some ⟨q, 0, none⟩)] 98 (0, 0))) (hs : CAt w0 q s) (ho : s.ok) : Clo 97 g (bothF s) w0 := by
  intro n W h0 h1 hb
  have c0 : ∀ o, (W.alloc o).cell? ⟨g, 0, none⟩ = some (.pointer (some ⟨q, 0, none⟩)) := fun o => ((ai_ (av_ _ _) o : Below W.heap.size W _).cell (p := ⟨g, 0, none⟩) (aj_ (blk_lt h) hb.size)).trans ((an_ ((hb.block g (blk_lt h)).trans h) 0).trans rfl)
  have HS := Lib.hid (hs.below hb)
  have CL := Lib.hid (clo98 W.heap.size n (W.alloc (.cells #[.int .i64 n] 3)) (blk_new W _) h0 h1)
  clear hb h hs
  unfold bothF
  go_enter Try.func97, Try.ntmps97
  go_wp2_with (go_at_call 73; refine (then_calls 98 W.heap.size (addF n) _ enters98 CL.out s q _ (HS.out.below (ai_ (av_ _ _) _)) ho (av_ _ _)).mono ?_; rintro e w2 ⟨p, rfl, hp, hb2⟩)
  go_ret
  exact ⟨p, rfl, hp, au_ (ai_ (av_ _ _) _) hb2⟩
theorem sub_ok_ {f : Int → CT} (hf : ∀ n, 0 ≤ n → n ≤ 99 → (f n).ok) : ∀ {t : CT}, t.ok → (t.sub f).ok
  | .ret n, h => hf n h.1 h.2
  | .ask n a b, h => ⟨sub_ok_ hf h.1, sub_ok_ hf h.2⟩
def small (t : CT) : Option CT := if t.size ≤ 60 then some t else none
def chandle (ret : Int) (rs : List S82) : CT → Option CT
  | .ret n => some (.ret ((n + ret) % 100))
  | .ask n a b =>
    if (rd_T82 rs n).f0 = 4 then some (.ret ((rd_T82 rs n).f1 % 100))
    else if (rd_T82 rs n).f0 = 1 then (chandle ret rs a).bind small
    else if (rd_T82 rs n).f0 = 2 then (chandle ret rs b).bind small
    else (chandle ret rs a).bind fun x => (chandle ret rs b).bind fun y =>
      if (rd_T82 rs n).f0 = 5 then small (.ask n x y) else small (x.sub (bothF y))
def HPost (r : Option CT) (w : World) (e : Ending) (w' : World) : Prop :=
  Below w.heap.size w w' ∧ match r with
  | none => e = .returned (.pointer none)
  | some t => ∃ g, e = .returned (.pointer (some ⟨g, 0, none⟩)) ∧ CAt w' g t
theorem cell_far {w : World} {b j : Nat} {v : Value} {p : Addr} (h : p.block ≠ b) : (w.setCell ⟨b, j, none⟩ v).cell? p = w.cell? p := by
  simp [World.cell?, Below.heap_setCell w ⟨b, j, none⟩ v p.block h]
theorem small_some {t u : CT} (h : small t = some u) : t = u ∧ u.size ≤ 60 := by
  unfold small at h
  split at h
  · injection h with h; subst h; exact ⟨rfl, by assumption⟩
  · cases h
theorem chandle_ok {ret : Int} {rs : List S82} (hg : ∀ x ∈ rs, ruleB x = true) (h0 : 0 ≤ ret) (h1 : ret ≤ 99) : ∀ {t u : CT}, t.ok → chandle ret rs t = some u → u.ok := by
  intro t
  induction t with
  | ret n => intro u ho h; simp only [chandle] at h; injection h with h; subst h; simp only [CT.ok] at ho ⊢; omega
  | ask n a b iha ihb =>
    intro u ho h
    simp only [chandle] at h
    split at h
    · injection h with h; subst h; simp only [CT.ok]; omega
    · split at h
      · obtain ⟨x, hx, hs⟩ := Option.bind_eq_some_iff.mp h
        obtain ⟨rfl, _⟩ := small_some hs
        exact iha ho.1 hx
      · split at h
        · obtain ⟨x, hx, hs⟩ := Option.bind_eq_some_iff.mp h
          obtain ⟨rfl, _⟩ := small_some hs
          exact ihb ho.2 hx
        · obtain ⟨x, hx, h⟩ := Option.bind_eq_some_iff.mp h
          obtain ⟨y, hy, h⟩ := Option.bind_eq_some_iff.mp h
          have hxo := iha ho.1 hx
          have hyo := ihb ho.2 hy
          split at h
          · obtain ⟨rfl, _⟩ := small_some h
            exact ⟨hxo, hyo⟩
          · obtain ⟨rfl, _⟩ := small_some h
            exact sub_ok_ (fun n n0 n1 => sub_ok_ (addF_ok n0 n1) hyo) hxo
theorem ruleB_kinds {x : S82} (h : ruleB x = true) : (x.f0 = 4 ∧ 0 ≤ x.f1 ∧ x.f1 ≤ 99) ∨ x.f0 = 1 ∨ x.f0 = 2 ∨ x.f0 = 3 ∨ x.f0 = 5 := by
  unfold ruleB at h
  split at h
  · left; simp at h; omega
  · right; simp at h; omega
structure HAt (w0 : World) (gh : Nat) (ret : Int) (A : Option Addr) (c : Nat) (rs : List S82) : Prop where
  blk : w0.heap[gh]? = some (.cells #[.int .i64 ret, .slice A rs.length c] 29 (0, 0))
  read : Kd.C k82 w0 A rs.length rs
  len : rs.length = 3
  ret0 : 0 ≤ ret
  ret1 : ret ≤ 99
  good : ∀ x ∈ rs, ruleB x = true
set_option maxRecDepth 100000 in
set_option maxHeartbeats 4000000 in
theorem handle_calls (gh : Nat) (ret : Int) (A : Option Addr) (c : Nat) (rs : List S82) (w0 : World) (hh : HAt w0 gh ret A c rs) (t : CT) : ∀ (g : Nat) (w : World), Below w0.heap.size w0 w → CAt w g t → t.ok → t.aok →
    Calls Try.prog 86 #[.pointer (some ⟨gh, 0, none⟩), .pointer (some ⟨g, 0, none⟩)] w (HPost (chandle ret rs t) w) := by
  have HH := Lib.hid hh
  clear hh
  induction t with
  | ret n =>
    intro g w hb ht ho _
    obtain ⟨o0, o1⟩ := ho
    have r0 := HH.out.ret0
    have r1 := HH.out.ret1
    have hbl := (hb.block gh (blk_lt HH.out.blk)).trans HH.out.blk
    have c0 : w.cell? ⟨g, 0, none⟩ = some (.int .i64 1) := (an_ ht 0).trans rfl
    have c1 : w.cell? ⟨g, 1, none⟩ = some (.int .i64 n) := (an_ ht 1).trans rfl
    have c2 : w.cell? ⟨gh, 0, none⟩ = some (.int .i64 ret) := (an_ hbl 0).trans rfl
    have e : chandle ret rs (.ret n) = some (.ret ((n + ret) % 100)) := rfl
    have hwr : IntKind.i64.wrap (n + ret) = n + ret := IntWalk.i64_in _ (by omega)
    rw [e]
    clear hb ht hbl e
    go_enter Try.func86, Try.ntmps86
    go_wp2
    go_region_with (go_at_call 75; refine (told_calls (n + ret) _ (by omega) (by omega)).mono ?_; rintro e w' ⟨p, rfl, hp, hb⟩; have HB := Lib.hid (au_ (ah_ (av_ _ _)) hb); have HP := Lib.hid hp; clear hb hp)
    all_goals go_wp2
    all_goals go_ret
    all_goals exact ⟨HB.out, p, rfl, HP.out⟩
  | ask n a b iha ihb =>
    intro g w hb ht ho hao
    obtain ⟨pa, pb, hp, ha, hbt⟩ := ht
    obtain ⟨⟨n0, n2⟩, haa, hba⟩ := hao
    obtain ⟨ho1, ho2⟩ := ho
    have hbl := (hb.block gh (blk_lt HH.out.blk)).trans HH.out.blk
    have hlen := HH.out.len
    obtain ⟨ad, hA, k0, k1⟩ := at_T82 (Kd.C_below HH.out.read hb) n n0 (by omega)
    have hrm : rd_T82 rs n ∈ rs := by
      have : n.toNat < rs.length := by omega
      simp only [rd_T82, List.getD_eq_getElem?_getD, List.getElem?_eq_getElem this, Option.getD_some]
      exact List.getElem_mem _
    have hg := HH.out.good _ hrm
    obtain ⟨i, rfl⟩ : ∃ i : Nat, n = (i : Int) := ⟨n.toNat, by omega⟩
    rw [Int.toNat_natCast] at k0 k1
    obtain ⟨⟨f0, f1⟩, hr⟩ : ∃ r, r = rd_T82 rs (i : Int) := ⟨_, rfl⟩
    rw [← hr] at k0 k1 hg
    simp only at k0 k1
    have hI : (i : Int) < (rs.length : Int) := by omega
    subst hA
    have c0 : w.cell? ⟨g, 0, none⟩ = some (.int .i64 2) := (an_ hp 0).trans rfl
    have c1 : w.cell? ⟨g, 1, none⟩ = some (.int .i64 i) := (an_ hp 1).trans rfl
    have c2 : w.cell? ⟨g, 2, none⟩ = some (.pointer (some ⟨pa, 0, none⟩)) := (an_ hp 2).trans rfl
    have c3 : w.cell? ⟨g, 3, none⟩ = some (.pointer (some ⟨pb, 0, none⟩)) := (an_ hp 3).trans rfl
    have c5 : w.cell? ⟨gh, 1, none⟩ = some (.slice (some ad) rs.length c) := (an_ hbl 1).trans rfl
    obtain ⟨w1, hw1⟩ : ∃ w1, w1 = w.alloc (.cells #[.pointer none] 98) := ⟨_, rfl⟩
    have hb1 : Below w.heap.size w w1 := by rw [hw1]; exact ai_ (av_ _ _) _
    have HR := Lib.hid hr
    have HP := Lib.hid hp
    have HA := Lib.hid ha
    have HBT := Lib.hid hbt
    have IA := Lib.hid iha
    have IB := Lib.hid ihb
    have HB := Lib.hid hb
    have HW1 := Lib.hid hw1
    have HB1 := Lib.hid hb1
    have glt := blk_lt hp
    have hlt := blk_lt hbl
    have klt := aa_ w _ k0
    clear hr hp ha hbt iha ihb hb hw1 hb1 hbl hrm hlen
    rcases ruleB_kinds hg with ⟨h4, g0, g1⟩ | h1 | h2 | h3 | h5
    · simp only at h4 g0 g1
      subst h4
      have e : chandle ret rs (.ask (i : Int) a b) = some (.ret (f1 % 100)) := by simp only [chandle, ← HR.out]; rw [if_pos trivial]
      rw [e]
      clear e hg
      have m0 : ∀ o, (w.alloc o).cell? (ad.add (i * 2)) = some (.int .i64 4) := fun o => ((ai_ (av_ _ _) o : Below w.heap.size w _).cell klt).trans k0
      have m1 : ∀ o, (w.alloc o).cell? ⟨(ad.add (i * 2)).block, (ad.add (i * 2)).off + 1, none⟩ = some (.int .i64 f1) := fun o => ((ai_ (av_ _ _) o : Below w.heap.size w _).cell (p := ⟨(ad.add (i * 2)).block, (ad.add (i * 2)).off + 1, none⟩) klt).trans k1
      go_enter Try.func86, Try.ntmps86
      go_wp2
      go_region
      go_wp2_with (go_at_call 75; refine (told_calls f1 _ (by omega) (by omega)).mono ?_; rintro e w' ⟨p, rfl, hp, hb⟩)
      go_ret
      exact ⟨au_ (by repeat (first | exact av_ _ _ | apply ah_ | apply ai_)) hb, p, rfl, hp⟩
    · simp only at h1
      subst h1
      have m0 : ∀ o, (w.alloc o).cell? (ad.add (i * 2)) = some (.int .i64 1) := fun o => ((ai_ (av_ _ _) o : Below w.heap.size w _).cell klt).trans k0
      have m1 : ∀ o, (w.alloc o).cell? ⟨(ad.add (i * 2)).block, (ad.add (i * 2)).off + 1, none⟩ = some (.int .i64 f1) := fun o => ((ai_ (av_ _ _) o : Below w.heap.size w _).cell (p := ⟨(ad.add (i * 2)).block, (ad.add (i * 2)).off + 1, none⟩) klt).trans k1
      have m2 : ∀ o o', ((w.alloc o).alloc o').cell? ⟨g, 2, none⟩ = some (.pointer (some ⟨pa, 0, none⟩)) := fun o o' => ((ai_ (ai_ (av_ _ _) o) o' : Below w.heap.size w _).cell (p := ⟨g, 2, none⟩) glt).trans c2
      cases hq : chandle ret rs a with
      | none =>
        have e : chandle ret rs (.ask (i : Int) a b) = none := by simp only [chandle, ← HR.out]; rw [if_neg (by decide), if_pos trivial, hq]; rfl
        rw [e]
        have HQ := Lib.hid hq
        clear e hg hq
        go_enter Try.func86, Try.ntmps86
        go_wp2
        go_region
        go_wp2_with (go_at_call_of 86 pa; refine (IA.out pa _ (au_ HB.out (by repeat (first | exact av_ _ _ | apply ah_ | apply ai_))) (HA.out.below (by repeat (first | exact av_ _ _ | apply ah_ | apply ai_))) ho1 haa).mono ?_; rw [HQ.out]; rintro e w2 ⟨hb, rfl⟩; have HB2 := Lib.hid (au_ (by repeat (first | exact av_ _ _ | apply ah_ | apply ai_) : Below w.heap.size w _) hb); clear hb)
        go_ret
        exact ⟨HB2.out, rfl⟩
      | some x =>
        have HQ := Lib.hid hq
        have e : chandle ret rs (.ask (i : Int) a b) = small x := by simp only [chandle, ← HR.out]; rw [if_neg (by decide), if_pos trivial, hq]; rfl
        rw [e]
        clear e hg hq
        by_cases hs : x.size ≤ 60
        · have e : small x = some x := by unfold small; rw [if_pos hs]
          rw [e]
          have hs2 : decide ((60 : Int) < x.size) = false := decide_eq_false (by omega)
          clear e
          go_enter Try.func86, Try.ntmps86
          go_wp2
          go_region
          go_wp2_with (go_at_call_of 86 pa; refine (IA.out pa _ (au_ HB.out (by repeat (first | exact av_ _ _ | apply ah_ | apply ai_))) (HA.out.below (by repeat (first | exact av_ _ _ | apply ah_ | apply ai_))) ho1 haa).mono ?_; rw [HQ.out]; rintro e w2 ⟨hb, q, rfl, hx⟩; have HB2 := Lib.hid (au_ (by repeat (first | exact av_ _ _ | apply ah_ | apply ai_) : Below w.heap.size w _) hb); have HX := Lib.hid hx; have krw2 : w2.cell? ⟨w.heap.size + 1, 0, none⟩ = some (.int .i64 1) := (hb.cell (p := ⟨w.heap.size + 1, 0, none⟩) (by simp)).trans (by simp); have ks := hx.size_cell; clear hb hx)
          go_ret
          exact ⟨HB2.out, q, rfl, HX.out⟩
        · have e : small x = none := by unfold small; rw [if_neg hs]
          rw [e]
          have hs2 : decide ((60 : Int) < x.size) = true := at_ (by omega)
          clear e
          go_enter Try.func86, Try.ntmps86
          go_wp2
          go_region
          go_wp2_with (go_at_call_of 86 pa; refine (IA.out pa _ (au_ HB.out (by repeat (first | exact av_ _ _ | apply ah_ | apply ai_))) (HA.out.below (by repeat (first | exact av_ _ _ | apply ah_ | apply ai_))) ho1 haa).mono ?_; rw [HQ.out]; rintro e w2 ⟨hb, q, rfl, hx⟩; have HB2 := Lib.hid (au_ (by repeat (first | exact av_ _ _ | apply ah_ | apply ai_) : Below w.heap.size w _) hb); have krw2 : w2.cell? ⟨w.heap.size + 1, 0, none⟩ = some (.int .i64 1) := (hb.cell (p := ⟨w.heap.size + 1, 0, none⟩) (by simp)).trans (by simp); have ks := hx.size_cell; clear hb hx)
          go_ret
          exact ⟨HB2.out, rfl⟩
    · simp only at h2
      subst h2
      have m0 : ∀ o, (w.alloc o).cell? (ad.add (i * 2)) = some (.int .i64 2) := fun o => ((ai_ (av_ _ _) o : Below w.heap.size w _).cell klt).trans k0
      have m1 : ∀ o, (w.alloc o).cell? ⟨(ad.add (i * 2)).block, (ad.add (i * 2)).off + 1, none⟩ = some (.int .i64 f1) := fun o => ((ai_ (av_ _ _) o : Below w.heap.size w _).cell (p := ⟨(ad.add (i * 2)).block, (ad.add (i * 2)).off + 1, none⟩) klt).trans k1
      have m3 : ∀ o o', ((w.alloc o).alloc o').cell? ⟨g, 3, none⟩ = some (.pointer (some ⟨pb, 0, none⟩)) := fun o o' => ((ai_ (ai_ (av_ _ _) o) o' : Below w.heap.size w _).cell (p := ⟨g, 3, none⟩) glt).trans c3
      cases hq : chandle ret rs b with
      | none =>
        have e : chandle ret rs (.ask (i : Int) a b) = none := by simp only [chandle, ← HR.out]; rw [if_neg (by decide), if_neg (by decide), if_pos trivial, hq]; rfl
        rw [e]
        have HQ := Lib.hid hq
        clear e hg hq
        go_enter Try.func86, Try.ntmps86
        go_wp2
        go_region
        go_wp2_with (go_at_call_of 86 pb; refine (IB.out pb _ (au_ HB.out (by repeat (first | exact av_ _ _ | apply ah_ | apply ai_))) (HBT.out.below (by repeat (first | exact av_ _ _ | apply ah_ | apply ai_))) ho2 hba).mono ?_; rw [HQ.out]; rintro e w3 ⟨hb, rfl⟩; have HB3 := Lib.hid (au_ (by repeat (first | exact av_ _ _ | apply ah_ | apply ai_) : Below w.heap.size w _) hb); have krw3 : w3.cell? ⟨w.heap.size + 1, 0, none⟩ = some (.int .i64 2) := (hb.cell (p := ⟨w.heap.size + 1, 0, none⟩) (by simp)).trans (by simp); have b6q : w3.heap[w.heap.size]? = some (.cells #[.pointer none] 98 (0, 0)) := (hb.block _ (by simp; omega)).trans (ae_ (ad_ (blk_new w _) _)); have k6w3 : w3.cell? ⟨w.heap.size, 0, none⟩ = some (.pointer none) := (an_ b6q 0).trans rfl; have f6w3 : w3.frozen? ⟨w.heap.size, 0, none⟩ = false := am_ b6q 0; have b6w3 := Lib.hid b6q; clear b6q; clear hb)
        go_ret
        exact ⟨af_ HB3.out (Nat.le_refl _), rfl⟩
      | some y =>
        have HQ := Lib.hid hq
        have e : chandle ret rs (.ask (i : Int) a b) = small y := by simp only [chandle, ← HR.out]; rw [if_neg (by decide), if_neg (by decide), if_pos trivial, hq]; rfl
        rw [e]
        clear e hg hq
        by_cases hs : y.size ≤ 60
        · have e : small y = some y := by unfold small; rw [if_pos hs]
          rw [e]
          have hs2 : decide ((60 : Int) < y.size) = false := decide_eq_false (by omega)
          clear e
          go_enter Try.func86, Try.ntmps86
          go_wp2
          go_region
          go_wp2_with (go_at_call_of 86 pb; refine (IB.out pb _ (au_ HB.out (by repeat (first | exact av_ _ _ | apply ah_ | apply ai_))) (HBT.out.below (by repeat (first | exact av_ _ _ | apply ah_ | apply ai_))) ho2 hba).mono ?_; rw [HQ.out]; rintro e w3 ⟨hb, q, rfl, hy⟩; have HB3 := Lib.hid (au_ (by repeat (first | exact av_ _ _ | apply ah_ | apply ai_) : Below w.heap.size w _) hb); have krw3 : w3.cell? ⟨w.heap.size + 1, 0, none⟩ = some (.int .i64 2) := (hb.cell (p := ⟨w.heap.size + 1, 0, none⟩) (by simp)).trans (by simp); have b6q : w3.heap[w.heap.size]? = some (.cells #[.pointer none] 98 (0, 0)) := (hb.block _ (by simp; omega)).trans (ae_ (ad_ (blk_new w _) _)); have k6w3 : w3.cell? ⟨w.heap.size, 0, none⟩ = some (.pointer none) := (an_ b6q 0).trans rfl; have f6w3 : w3.frozen? ⟨w.heap.size, 0, none⟩ = false := am_ b6q 0; have b6w3 := Lib.hid b6q; clear b6q; have HY := Lib.hid (CAt.far b6w3.out (by decide) 0 (.pointer (some ⟨q, 0, none⟩)) hy); have ks := HY.out.size_cell; clear hb hy)
          go_ret
          exact ⟨af_ HB3.out (Nat.le_refl _), q, rfl, HY.out⟩
        · have e : small y = none := by unfold small; rw [if_neg hs]
          rw [e]
          have hs2 : decide ((60 : Int) < y.size) = true := at_ (by omega)
          clear e
          go_enter Try.func86, Try.ntmps86
          go_wp2
          go_region
          go_wp2_with (go_at_call_of 86 pb; refine (IB.out pb _ (au_ HB.out (by repeat (first | exact av_ _ _ | apply ah_ | apply ai_))) (HBT.out.below (by repeat (first | exact av_ _ _ | apply ah_ | apply ai_))) ho2 hba).mono ?_; rw [HQ.out]; rintro e w3 ⟨hb, q, rfl, hy⟩; have HB3 := Lib.hid (au_ (by repeat (first | exact av_ _ _ | apply ah_ | apply ai_) : Below w.heap.size w _) hb); have krw3 : w3.cell? ⟨w.heap.size + 1, 0, none⟩ = some (.int .i64 2) := (hb.cell (p := ⟨w.heap.size + 1, 0, none⟩) (by simp)).trans (by simp); have b6q : w3.heap[w.heap.size]? = some (.cells #[.pointer none] 98 (0, 0)) := (hb.block _ (by simp; omega)).trans (ae_ (ad_ (blk_new w _) _)); have k6w3 : w3.cell? ⟨w.heap.size, 0, none⟩ = some (.pointer none) := (an_ b6q 0).trans rfl; have f6w3 : w3.frozen? ⟨w.heap.size, 0, none⟩ = false := am_ b6q 0; have b6w3 := Lib.hid b6q; clear b6q; have HY := Lib.hid (CAt.far b6w3.out (by decide) 0 (.pointer (some ⟨q, 0, none⟩)) hy); have ks := HY.out.size_cell; clear hb hy)
          go_ret
          exact ⟨af_ HB3.out (Nat.le_refl _), rfl⟩
    · simp only at h3
      subst h3
      have m0 : ∀ o, (w.alloc o).cell? (ad.add (i * 2)) = some (.int .i64 3) := fun o => ((ai_ (av_ _ _) o : Below w.heap.size w _).cell klt).trans k0
      have m1 : ∀ o, (w.alloc o).cell? ⟨(ad.add (i * 2)).block, (ad.add (i * 2)).off + 1, none⟩ = some (.int .i64 f1) := fun o => ((ai_ (av_ _ _) o : Below w.heap.size w _).cell (p := ⟨(ad.add (i * 2)).block, (ad.add (i * 2)).off + 1, none⟩) klt).trans k1
      have m2 : ∀ o o', ((w.alloc o).alloc o').cell? ⟨g, 2, none⟩ = some (.pointer (some ⟨pa, 0, none⟩)) := fun o o' => ((ai_ (ai_ (av_ _ _) o) o' : Below w.heap.size w _).cell (p := ⟨g, 2, none⟩) glt).trans c2
      have m3 : ∀ o o', ((w.alloc o).alloc o').cell? ⟨g, 3, none⟩ = some (.pointer (some ⟨pb, 0, none⟩)) := fun o o' => ((ai_ (ai_ (av_ _ _) o) o' : Below w.heap.size w _).cell (p := ⟨g, 3, none⟩) glt).trans c3
      cases hq : chandle ret rs a with
      | none =>
        have e : chandle ret rs (.ask (i : Int) a b) = none := by simp only [chandle, ← HR.out]; rw [if_neg (by decide), if_neg (by decide), if_neg (by decide), hq]; rfl
        rw [e]
        have HQ := Lib.hid hq
        clear e hg hq
        go_enter Try.func86, Try.ntmps86
        go_wp2
        go_region
        go_wp2_with (go_at_call_of 86 pa; refine (IA.out pa _ (au_ HB.out (by repeat (first | exact av_ _ _ | apply ah_ | apply ai_))) (HA.out.below (by repeat (first | exact av_ _ _ | apply ah_ | apply ai_))) ho1 haa).mono ?_; rw [HQ.out]; rintro e w2 ⟨hb, rfl⟩; have HB2 := Lib.hid (au_ (by repeat (first | exact av_ _ _ | apply ah_ | apply ai_) : Below w.heap.size w _) hb); have krw2 : w2.cell? ⟨w.heap.size + 1, 0, none⟩ = some (.int .i64 3) := (hb.cell (p := ⟨w.heap.size + 1, 0, none⟩) (by simp)).trans (by simp); have b6q : w2.heap[w.heap.size]? = some (.cells #[.pointer none] 98 (0, 0)) := (hb.block _ (by simp; omega)).trans (ae_ (ad_ (blk_new w _) _)); have k6w2 : w2.cell? ⟨w.heap.size, 0, none⟩ = some (.pointer none) := (an_ b6q 0).trans rfl; have f6w2 : w2.frozen? ⟨w.heap.size, 0, none⟩ = false := am_ b6q 0; have b6w2 := Lib.hid b6q; clear b6q; have m3w2 : w2.cell? ⟨g, 3, none⟩ = some (.pointer (some ⟨pb, 0, none⟩)) := (HB2.out.cell (p := ⟨g, 3, none⟩) glt).trans c3; clear hb)
        go_ret
        exact ⟨HB2.out, rfl⟩
      | some x =>
        cases hq2 : chandle ret rs b with
        | none =>
          have e : chandle ret rs (.ask (i : Int) a b) = none := by simp only [chandle, ← HR.out]; rw [if_neg (by decide), if_neg (by decide), if_neg (by decide), hq]; simp only [Option.bind_some]; rw [hq2]; rfl
          rw [e]
          have HQ := Lib.hid hq
          have HQ2 := Lib.hid hq2
          clear e hg hq hq2
          go_enter Try.func86, Try.ntmps86
          go_wp2
          go_region
          go_wp2_with (first
            | (go_at_call_of 86 pa; refine (IA.out pa _ (au_ HB.out (by repeat (first | exact av_ _ _ | apply ah_ | apply ai_))) (HA.out.below (by repeat (first | exact av_ _ _ | apply ah_ | apply ai_))) ho1 haa).mono ?_; rw [HQ.out]; rintro e w2 ⟨hb, px, rfl, hx⟩; have HB2 := Lib.hid (au_ (by repeat (first | exact av_ _ _ | apply ah_ | apply ai_) : Below w.heap.size w _) hb); have krw2 : w2.cell? ⟨w.heap.size + 1, 0, none⟩ = some (.int .i64 3) := (hb.cell (p := ⟨w.heap.size + 1, 0, none⟩) (by simp)).trans (by simp); have b6q : w2.heap[w.heap.size]? = some (.cells #[.pointer none] 98 (0, 0)) := (hb.block _ (by simp; omega)).trans (ae_ (ad_ (blk_new w _) _)); have k6w2 : w2.cell? ⟨w.heap.size, 0, none⟩ = some (.pointer none) := (an_ b6q 0).trans rfl; have f6w2 : w2.frozen? ⟨w.heap.size, 0, none⟩ = false := am_ b6q 0; have b6w2 := Lib.hid b6q; clear b6q; have m3w2 : w2.cell? ⟨g, 3, none⟩ = some (.pointer (some ⟨pb, 0, none⟩)) := (HB2.out.cell (p := ⟨g, 3, none⟩) glt).trans c3; have HX := Lib.hid hx; clear hb hx)
            | (go_at_call_of 86 pb; refine (IB.out pb _ (au_ HB.out HB2.out) (HBT.out.below HB2.out) ho2 hba).mono ?_; rw [HQ2.out]; rintro e w3 ⟨hb, rfl⟩; have HB3 := Lib.hid (au_ HB2.out hb); have krw3 : w3.cell? ⟨w.heap.size + 1, 0, none⟩ = some (.int .i64 3) := (hb.cell (p := ⟨w.heap.size + 1, 0, none⟩) (aa_ w2 _ krw2)).trans krw2; have b6q : w3.heap[w.heap.size]? = some (.cells #[.pointer none] 98 (0, 0)) := (hb.block _ (blk_lt b6w2.out)).trans b6w2.out; have k6w3 : w3.cell? ⟨w.heap.size, 0, none⟩ = some (.pointer none) := (an_ b6q 0).trans rfl; have f6w3 : w3.frozen? ⟨w.heap.size, 0, none⟩ = false := am_ b6q 0; have b6w3 := Lib.hid b6q; clear b6q; clear hb))
          go_ret
          exact ⟨af_ HB3.out (Nat.le_refl _), rfl⟩
        | some y =>
          have hxo := chandle_ok HH.out.good HH.out.ret0 HH.out.ret1 ho1 hq
          have hyo := chandle_ok HH.out.good HH.out.ret0 HH.out.ret1 ho2 hq2
          have e : chandle ret rs (.ask (i : Int) a b) = small (x.sub (bothF y)) := by simp only [chandle, ← HR.out]; rw [if_neg (by decide), if_neg (by decide), if_neg (by decide), hq]; simp only [Option.bind_some]; rw [hq2]; simp only [Option.bind_some]; rw [if_neg (by decide)]
          rw [e]
          have HQ := Lib.hid hq
          have HQ2 := Lib.hid hq2
          clear e hg hq hq2
          by_cases hs : (x.sub (bothF y)).size ≤ 60
          · have e : small (x.sub (bothF y)) = some (x.sub (bothF y)) := by unfold small; rw [if_pos hs]
            rw [e]
            have hs2 : decide ((60 : Int) < (x.sub (bothF y)).size) = false := decide_eq_false (by omega)
            clear e
            go_enter Try.func86, Try.ntmps86
            go_wp2
            go_region
            go_wp2_with (first
              | (go_at_call_of 86 pa; refine (IA.out pa _ (au_ HB.out (by repeat (first | exact av_ _ _ | apply ah_ | apply ai_))) (HA.out.below (by repeat (first | exact av_ _ _ | apply ah_ | apply ai_))) ho1 haa).mono ?_; rw [HQ.out]; rintro e w2 ⟨hb, px, rfl, hx⟩; have HB2 := Lib.hid (au_ (by repeat (first | exact av_ _ _ | apply ah_ | apply ai_) : Below w.heap.size w _) hb); have krw2 : w2.cell? ⟨w.heap.size + 1, 0, none⟩ = some (.int .i64 3) := (hb.cell (p := ⟨w.heap.size + 1, 0, none⟩) (by simp)).trans (by simp); have b6q : w2.heap[w.heap.size]? = some (.cells #[.pointer none] 98 (0, 0)) := (hb.block _ (by simp; omega)).trans (ae_ (ad_ (blk_new w _) _)); have k6w2 : w2.cell? ⟨w.heap.size, 0, none⟩ = some (.pointer none) := (an_ b6q 0).trans rfl; have f6w2 : w2.frozen? ⟨w.heap.size, 0, none⟩ = false := am_ b6q 0; have b6w2 := Lib.hid b6q; clear b6q; have m3w2 : w2.cell? ⟨g, 3, none⟩ = some (.pointer (some ⟨pb, 0, none⟩)) := (HB2.out.cell (p := ⟨g, 3, none⟩) glt).trans c3; have HX := Lib.hid hx; clear hb hx)
              | (go_at_call_of 86 pb; refine (IB.out pb _ (au_ HB.out HB2.out) (HBT.out.below HB2.out) ho2 hba).mono ?_; rw [HQ2.out]; rintro e w3 ⟨hb, q, rfl, hy⟩; have HB3 := Lib.hid (au_ HB2.out hb); have krw3 : w3.cell? ⟨w.heap.size + 1, 0, none⟩ = some (.int .i64 3) := (hb.cell (p := ⟨w.heap.size + 1, 0, none⟩) (aa_ w2 _ krw2)).trans krw2; have b6q : w3.heap[w.heap.size]? = some (.cells #[.pointer none] 98 (0, 0)) := (hb.block _ (blk_lt b6w2.out)).trans b6w2.out; have k6w3 : w3.cell? ⟨w.heap.size, 0, none⟩ = some (.pointer none) := (an_ b6q 0).trans rfl; have f6w3 : w3.frozen? ⟨w.heap.size, 0, none⟩ = false := am_ b6q 0; have b6w3 := Lib.hid b6q; clear b6q; have hgne : g ≠ w.heap.size := (by omega); have g1 : (w3.setCell ⟨w.heap.size, 0, none⟩ (.pointer (some ⟨q, 0, none⟩))).cell? ⟨g, 1, none⟩ = some (.int .i64 i) := (cell_far (p := ⟨g, 1, none⟩) hgne).trans ((HB3.out.cell (p := ⟨g, 1, none⟩) glt).trans c1); have HX3 := Lib.hid (CAt.far b6w3.out (by decide) 0 (.pointer (some ⟨q, 0, none⟩)) (HX.out.below hb)); have HY3 := Lib.hid (CAt.far b6w3.out (by decide) 0 (.pointer (some ⟨q, 0, none⟩)) hy); have b6s := Lib.hid (show (w3.setCell ⟨w.heap.size, 0, none⟩ (.pointer (some ⟨q, 0, none⟩))).heap[w.heap.size]? = some (.cells #[.pointer (some ⟨q, 0, none⟩)] 98 (0, 0)) from blk_put (cs := #[.pointer none]) b6w3.out 0 _ rfl); have HB4 := Lib.hid (show Below w.heap.size w (w3.setCell ⟨w.heap.size, 0, none⟩ (.pointer (some ⟨q, 0, none⟩))) from af_ HB3.out (Nat.le_refl _)); clear hb hy)
              | (go_at_call 73; refine (then_calls 97 w.heap.size (bothF y) _ enters97 (clo97 w.heap.size q y _ b6s.out HY3.out hyo) x px _ HX3.out hxo (av_ _ _)).mono ?_; rintro e w5 ⟨z, rfl, hz, hb⟩; have HB5 := Lib.hid (au_ HB4.out hb); have HZ := Lib.hid hz; have ks := hz.size_cell; clear hb hz))
            go_ret
            exact ⟨HB5.out, z, rfl, HZ.out⟩
          · have e : small (x.sub (bothF y)) = none := by unfold small; rw [if_neg hs]
            rw [e]
            have hs2 : decide ((60 : Int) < (x.sub (bothF y)).size) = true := at_ (by omega)
            clear e
            go_enter Try.func86, Try.ntmps86
            go_wp2
            go_region
            go_wp2_with (first
              | (go_at_call_of 86 pa; refine (IA.out pa _ (au_ HB.out (by repeat (first | exact av_ _ _ | apply ah_ | apply ai_))) (HA.out.below (by repeat (first | exact av_ _ _ | apply ah_ | apply ai_))) ho1 haa).mono ?_; rw [HQ.out]; rintro e w2 ⟨hb, px, rfl, hx⟩; have HB2 := Lib.hid (au_ (by repeat (first | exact av_ _ _ | apply ah_ | apply ai_) : Below w.heap.size w _) hb); have krw2 : w2.cell? ⟨w.heap.size + 1, 0, none⟩ = some (.int .i64 3) := (hb.cell (p := ⟨w.heap.size + 1, 0, none⟩) (by simp)).trans (by simp); have b6q : w2.heap[w.heap.size]? = some (.cells #[.pointer none] 98 (0, 0)) := (hb.block _ (by simp; omega)).trans (ae_ (ad_ (blk_new w _) _)); have k6w2 : w2.cell? ⟨w.heap.size, 0, none⟩ = some (.pointer none) := (an_ b6q 0).trans rfl; have f6w2 : w2.frozen? ⟨w.heap.size, 0, none⟩ = false := am_ b6q 0; have b6w2 := Lib.hid b6q; clear b6q; have m3w2 : w2.cell? ⟨g, 3, none⟩ = some (.pointer (some ⟨pb, 0, none⟩)) := (HB2.out.cell (p := ⟨g, 3, none⟩) glt).trans c3; have HX := Lib.hid hx; clear hb hx)
              | (go_at_call_of 86 pb; refine (IB.out pb _ (au_ HB.out HB2.out) (HBT.out.below HB2.out) ho2 hba).mono ?_; rw [HQ2.out]; rintro e w3 ⟨hb, q, rfl, hy⟩; have HB3 := Lib.hid (au_ HB2.out hb); have krw3 : w3.cell? ⟨w.heap.size + 1, 0, none⟩ = some (.int .i64 3) := (hb.cell (p := ⟨w.heap.size + 1, 0, none⟩) (aa_ w2 _ krw2)).trans krw2; have b6q : w3.heap[w.heap.size]? = some (.cells #[.pointer none] 98 (0, 0)) := (hb.block _ (blk_lt b6w2.out)).trans b6w2.out; have k6w3 : w3.cell? ⟨w.heap.size, 0, none⟩ = some (.pointer none) := (an_ b6q 0).trans rfl; have f6w3 : w3.frozen? ⟨w.heap.size, 0, none⟩ = false := am_ b6q 0; have b6w3 := Lib.hid b6q; clear b6q; have hgne : g ≠ w.heap.size := (by omega); have g1 : (w3.setCell ⟨w.heap.size, 0, none⟩ (.pointer (some ⟨q, 0, none⟩))).cell? ⟨g, 1, none⟩ = some (.int .i64 i) := (cell_far (p := ⟨g, 1, none⟩) hgne).trans ((HB3.out.cell (p := ⟨g, 1, none⟩) glt).trans c1); have HX3 := Lib.hid (CAt.far b6w3.out (by decide) 0 (.pointer (some ⟨q, 0, none⟩)) (HX.out.below hb)); have HY3 := Lib.hid (CAt.far b6w3.out (by decide) 0 (.pointer (some ⟨q, 0, none⟩)) hy); have b6s := Lib.hid (show (w3.setCell ⟨w.heap.size, 0, none⟩ (.pointer (some ⟨q, 0, none⟩))).heap[w.heap.size]? = some (.cells #[.pointer (some ⟨q, 0, none⟩)] 98 (0, 0)) from blk_put (cs := #[.pointer none]) b6w3.out 0 _ rfl); have HB4 := Lib.hid (show Below w.heap.size w (w3.setCell ⟨w.heap.size, 0, none⟩ (.pointer (some ⟨q, 0, none⟩))) from af_ HB3.out (Nat.le_refl _)); clear hb hy)
              | (go_at_call 73; refine (then_calls 97 w.heap.size (bothF y) _ enters97 (clo97 w.heap.size q y _ b6s.out HY3.out hyo) x px _ HX3.out hxo (av_ _ _)).mono ?_; rintro e w5 ⟨z, rfl, hz, hb⟩; have HB5 := Lib.hid (au_ HB4.out hb); have HZ := Lib.hid hz; have ks := hz.size_cell; clear hb hz))
            go_ret
            exact ⟨HB5.out, rfl⟩
    · simp only at h5
      subst h5
      have m0 : ∀ o, (w.alloc o).cell? (ad.add (i * 2)) = some (.int .i64 5) := fun o => ((ai_ (av_ _ _) o : Below w.heap.size w _).cell klt).trans k0
      have m1 : ∀ o, (w.alloc o).cell? ⟨(ad.add (i * 2)).block, (ad.add (i * 2)).off + 1, none⟩ = some (.int .i64 f1) := fun o => ((ai_ (av_ _ _) o : Below w.heap.size w _).cell (p := ⟨(ad.add (i * 2)).block, (ad.add (i * 2)).off + 1, none⟩) klt).trans k1
      have m2 : ∀ o o', ((w.alloc o).alloc o').cell? ⟨g, 2, none⟩ = some (.pointer (some ⟨pa, 0, none⟩)) := fun o o' => ((ai_ (ai_ (av_ _ _) o) o' : Below w.heap.size w _).cell (p := ⟨g, 2, none⟩) glt).trans c2
      have m3 : ∀ o o', ((w.alloc o).alloc o').cell? ⟨g, 3, none⟩ = some (.pointer (some ⟨pb, 0, none⟩)) := fun o o' => ((ai_ (ai_ (av_ _ _) o) o' : Below w.heap.size w _).cell (p := ⟨g, 3, none⟩) glt).trans c3
      cases hq : chandle ret rs a with
      | none =>
        have e : chandle ret rs (.ask (i : Int) a b) = none := by simp only [chandle, ← HR.out]; rw [if_neg (by decide), if_neg (by decide), if_neg (by decide), hq]; rfl
        rw [e]
        have HQ := Lib.hid hq
        clear e hg hq
        go_enter Try.func86, Try.ntmps86
        go_wp2
        go_region
        go_wp2_with (go_at_call_of 86 pa; refine (IA.out pa _ (au_ HB.out (by repeat (first | exact av_ _ _ | apply ah_ | apply ai_))) (HA.out.below (by repeat (first | exact av_ _ _ | apply ah_ | apply ai_))) ho1 haa).mono ?_; rw [HQ.out]; rintro e w2 ⟨hb, rfl⟩; have HB2 := Lib.hid (au_ (by repeat (first | exact av_ _ _ | apply ah_ | apply ai_) : Below w.heap.size w _) hb); have krw2 : w2.cell? ⟨w.heap.size + 1, 0, none⟩ = some (.int .i64 5) := (hb.cell (p := ⟨w.heap.size + 1, 0, none⟩) (by simp)).trans (by simp); have b6q : w2.heap[w.heap.size]? = some (.cells #[.pointer none] 98 (0, 0)) := (hb.block _ (by simp; omega)).trans (ae_ (ad_ (blk_new w _) _)); have k6w2 : w2.cell? ⟨w.heap.size, 0, none⟩ = some (.pointer none) := (an_ b6q 0).trans rfl; have f6w2 : w2.frozen? ⟨w.heap.size, 0, none⟩ = false := am_ b6q 0; have b6w2 := Lib.hid b6q; clear b6q; have m3w2 : w2.cell? ⟨g, 3, none⟩ = some (.pointer (some ⟨pb, 0, none⟩)) := (HB2.out.cell (p := ⟨g, 3, none⟩) glt).trans c3; clear hb)
        go_ret
        exact ⟨HB2.out, rfl⟩
      | some x =>
        cases hq2 : chandle ret rs b with
        | none =>
          have e : chandle ret rs (.ask (i : Int) a b) = none := by simp only [chandle, ← HR.out]; rw [if_neg (by decide), if_neg (by decide), if_neg (by decide), hq]; simp only [Option.bind_some]; rw [hq2]; rfl
          rw [e]
          have HQ := Lib.hid hq
          have HQ2 := Lib.hid hq2
          clear e hg hq hq2
          go_enter Try.func86, Try.ntmps86
          go_wp2
          go_region
          go_wp2_with (first
            | (go_at_call_of 86 pa; refine (IA.out pa _ (au_ HB.out (by repeat (first | exact av_ _ _ | apply ah_ | apply ai_))) (HA.out.below (by repeat (first | exact av_ _ _ | apply ah_ | apply ai_))) ho1 haa).mono ?_; rw [HQ.out]; rintro e w2 ⟨hb, px, rfl, hx⟩; have HB2 := Lib.hid (au_ (by repeat (first | exact av_ _ _ | apply ah_ | apply ai_) : Below w.heap.size w _) hb); have krw2 : w2.cell? ⟨w.heap.size + 1, 0, none⟩ = some (.int .i64 5) := (hb.cell (p := ⟨w.heap.size + 1, 0, none⟩) (by simp)).trans (by simp); have b6q : w2.heap[w.heap.size]? = some (.cells #[.pointer none] 98 (0, 0)) := (hb.block _ (by simp; omega)).trans (ae_ (ad_ (blk_new w _) _)); have k6w2 : w2.cell? ⟨w.heap.size, 0, none⟩ = some (.pointer none) := (an_ b6q 0).trans rfl; have f6w2 : w2.frozen? ⟨w.heap.size, 0, none⟩ = false := am_ b6q 0; have b6w2 := Lib.hid b6q; clear b6q; have m3w2 : w2.cell? ⟨g, 3, none⟩ = some (.pointer (some ⟨pb, 0, none⟩)) := (HB2.out.cell (p := ⟨g, 3, none⟩) glt).trans c3; have HX := Lib.hid hx; clear hb hx)
            | (go_at_call_of 86 pb; refine (IB.out pb _ (au_ HB.out HB2.out) (HBT.out.below HB2.out) ho2 hba).mono ?_; rw [HQ2.out]; rintro e w3 ⟨hb, rfl⟩; have HB3 := Lib.hid (au_ HB2.out hb); have krw3 : w3.cell? ⟨w.heap.size + 1, 0, none⟩ = some (.int .i64 5) := (hb.cell (p := ⟨w.heap.size + 1, 0, none⟩) (aa_ w2 _ krw2)).trans krw2; have b6q : w3.heap[w.heap.size]? = some (.cells #[.pointer none] 98 (0, 0)) := (hb.block _ (blk_lt b6w2.out)).trans b6w2.out; have k6w3 : w3.cell? ⟨w.heap.size, 0, none⟩ = some (.pointer none) := (an_ b6q 0).trans rfl; have f6w3 : w3.frozen? ⟨w.heap.size, 0, none⟩ = false := am_ b6q 0; have b6w3 := Lib.hid b6q; clear b6q; clear hb))
          go_ret
          exact ⟨af_ HB3.out (Nat.le_refl _), rfl⟩
        | some y =>
          have hxo := chandle_ok HH.out.good HH.out.ret0 HH.out.ret1 ho1 hq
          have hyo := chandle_ok HH.out.good HH.out.ret0 HH.out.ret1 ho2 hq2
          have e : chandle ret rs (.ask (i : Int) a b) = small (.ask (i : Int) x y) := by simp only [chandle, ← HR.out]; rw [if_neg (by decide), if_neg (by decide), if_neg (by decide), hq]; simp only [Option.bind_some]; rw [hq2]; simp only [Option.bind_some]; rw [if_pos trivial]
          rw [e]
          have HQ := Lib.hid hq
          have HQ2 := Lib.hid hq2
          clear e hg hq hq2
          by_cases hs : (CT.ask (i : Int) x y).size ≤ 60
          · have e : small (.ask (i : Int) x y) = some (CT.ask (i : Int) x y) := by unfold small; rw [if_pos hs]
            rw [e]
            have hs2 : decide ((60 : Int) < (CT.ask (i : Int) x y).size) = false := decide_eq_false (by omega)
            clear e
            go_enter Try.func86, Try.ntmps86
            go_wp2
            go_region
            go_wp2_with (first
              | (go_at_call_of 86 pa; refine (IA.out pa _ (au_ HB.out (by repeat (first | exact av_ _ _ | apply ah_ | apply ai_))) (HA.out.below (by repeat (first | exact av_ _ _ | apply ah_ | apply ai_))) ho1 haa).mono ?_; rw [HQ.out]; rintro e w2 ⟨hb, px, rfl, hx⟩; have HB2 := Lib.hid (au_ (by repeat (first | exact av_ _ _ | apply ah_ | apply ai_) : Below w.heap.size w _) hb); have krw2 : w2.cell? ⟨w.heap.size + 1, 0, none⟩ = some (.int .i64 5) := (hb.cell (p := ⟨w.heap.size + 1, 0, none⟩) (by simp)).trans (by simp); have b6q : w2.heap[w.heap.size]? = some (.cells #[.pointer none] 98 (0, 0)) := (hb.block _ (by simp; omega)).trans (ae_ (ad_ (blk_new w _) _)); have k6w2 : w2.cell? ⟨w.heap.size, 0, none⟩ = some (.pointer none) := (an_ b6q 0).trans rfl; have f6w2 : w2.frozen? ⟨w.heap.size, 0, none⟩ = false := am_ b6q 0; have b6w2 := Lib.hid b6q; clear b6q; have m3w2 : w2.cell? ⟨g, 3, none⟩ = some (.pointer (some ⟨pb, 0, none⟩)) := (HB2.out.cell (p := ⟨g, 3, none⟩) glt).trans c3; have HX := Lib.hid hx; clear hb hx)
              | (go_at_call_of 86 pb; refine (IB.out pb _ (au_ HB.out HB2.out) (HBT.out.below HB2.out) ho2 hba).mono ?_; rw [HQ2.out]; rintro e w3 ⟨hb, q, rfl, hy⟩; have HB3 := Lib.hid (au_ HB2.out hb); have krw3 : w3.cell? ⟨w.heap.size + 1, 0, none⟩ = some (.int .i64 5) := (hb.cell (p := ⟨w.heap.size + 1, 0, none⟩) (aa_ w2 _ krw2)).trans krw2; have b6q : w3.heap[w.heap.size]? = some (.cells #[.pointer none] 98 (0, 0)) := (hb.block _ (blk_lt b6w2.out)).trans b6w2.out; have k6w3 : w3.cell? ⟨w.heap.size, 0, none⟩ = some (.pointer none) := (an_ b6q 0).trans rfl; have f6w3 : w3.frozen? ⟨w.heap.size, 0, none⟩ = false := am_ b6q 0; have b6w3 := Lib.hid b6q; clear b6q; have hgne : g ≠ w.heap.size := (by omega); have g1 : (w3.setCell ⟨w.heap.size, 0, none⟩ (.pointer (some ⟨q, 0, none⟩))).cell? ⟨g, 1, none⟩ = some (.int .i64 i) := (cell_far (p := ⟨g, 1, none⟩) hgne).trans ((HB3.out.cell (p := ⟨g, 1, none⟩) glt).trans c1); have HX3 := Lib.hid (CAt.far b6w3.out (by decide) 0 (.pointer (some ⟨q, 0, none⟩)) (HX.out.below hb)); have HY3 := Lib.hid (CAt.far b6w3.out (by decide) 0 (.pointer (some ⟨q, 0, none⟩)) hy); have b6s := Lib.hid (show (w3.setCell ⟨w.heap.size, 0, none⟩ (.pointer (some ⟨q, 0, none⟩))).heap[w.heap.size]? = some (.cells #[.pointer (some ⟨q, 0, none⟩)] 98 (0, 0)) from blk_put (cs := #[.pointer none]) b6w3.out 0 _ rfl); have HB4 := Lib.hid (show Below w.heap.size w (w3.setCell ⟨w.heap.size, 0, none⟩ (.pointer (some ⟨q, 0, none⟩))) from af_ HB3.out (Nat.le_refl _)); clear hb hy))
            go_region_with (go_at_call 93; refine (asks_calls (i : Int) px q x y _ (HX3.out.below (ah_ (av_ _ _))) (HY3.out.below (ah_ (av_ _ _)))).mono ?_; rintro e w5 ⟨z, rfl, hz, hb⟩; have HB5 := Lib.hid (au_ (ah_ HB4.out) hb); have HZ := Lib.hid hz; have ks := hz.size_cell; have kr4 : (w3.setCell ⟨w.heap.size, 0, none⟩ (.pointer (some ⟨q, 0, none⟩))).drew.cell? ⟨w.heap.size + 1, 0, none⟩ = some (.int .i64 5) := (cell_far (p := ⟨w.heap.size + 1, 0, none⟩) (by simp)).trans krw3; have kr5 : w5.cell? ⟨w.heap.size + 1, 0, none⟩ = some (.int .i64 5) := (hb.cell (p := ⟨w.heap.size + 1, 0, none⟩) (aa_ _ _ kr4)).trans kr4; clear hb hz kr4)
            all_goals go_wp2
            all_goals go_ret
            all_goals exact ⟨HB5.out, z, rfl, HZ.out⟩
          · have e : small (.ask (i : Int) x y) = none := by unfold small; rw [if_neg hs]
            rw [e]
            have hs2 : decide ((60 : Int) < (CT.ask (i : Int) x y).size) = true := at_ (by omega)
            clear e
            go_enter Try.func86, Try.ntmps86
            go_wp2
            go_region
            go_wp2_with (first
              | (go_at_call_of 86 pa; refine (IA.out pa _ (au_ HB.out (by repeat (first | exact av_ _ _ | apply ah_ | apply ai_))) (HA.out.below (by repeat (first | exact av_ _ _ | apply ah_ | apply ai_))) ho1 haa).mono ?_; rw [HQ.out]; rintro e w2 ⟨hb, px, rfl, hx⟩; have HB2 := Lib.hid (au_ (by repeat (first | exact av_ _ _ | apply ah_ | apply ai_) : Below w.heap.size w _) hb); have krw2 : w2.cell? ⟨w.heap.size + 1, 0, none⟩ = some (.int .i64 5) := (hb.cell (p := ⟨w.heap.size + 1, 0, none⟩) (by simp)).trans (by simp); have b6q : w2.heap[w.heap.size]? = some (.cells #[.pointer none] 98 (0, 0)) := (hb.block _ (by simp; omega)).trans (ae_ (ad_ (blk_new w _) _)); have k6w2 : w2.cell? ⟨w.heap.size, 0, none⟩ = some (.pointer none) := (an_ b6q 0).trans rfl; have f6w2 : w2.frozen? ⟨w.heap.size, 0, none⟩ = false := am_ b6q 0; have b6w2 := Lib.hid b6q; clear b6q; have m3w2 : w2.cell? ⟨g, 3, none⟩ = some (.pointer (some ⟨pb, 0, none⟩)) := (HB2.out.cell (p := ⟨g, 3, none⟩) glt).trans c3; have HX := Lib.hid hx; clear hb hx)
              | (go_at_call_of 86 pb; refine (IB.out pb _ (au_ HB.out HB2.out) (HBT.out.below HB2.out) ho2 hba).mono ?_; rw [HQ2.out]; rintro e w3 ⟨hb, q, rfl, hy⟩; have HB3 := Lib.hid (au_ HB2.out hb); have krw3 : w3.cell? ⟨w.heap.size + 1, 0, none⟩ = some (.int .i64 5) := (hb.cell (p := ⟨w.heap.size + 1, 0, none⟩) (aa_ w2 _ krw2)).trans krw2; have b6q : w3.heap[w.heap.size]? = some (.cells #[.pointer none] 98 (0, 0)) := (hb.block _ (blk_lt b6w2.out)).trans b6w2.out; have k6w3 : w3.cell? ⟨w.heap.size, 0, none⟩ = some (.pointer none) := (an_ b6q 0).trans rfl; have f6w3 : w3.frozen? ⟨w.heap.size, 0, none⟩ = false := am_ b6q 0; have b6w3 := Lib.hid b6q; clear b6q; have hgne : g ≠ w.heap.size := (by omega); have g1 : (w3.setCell ⟨w.heap.size, 0, none⟩ (.pointer (some ⟨q, 0, none⟩))).cell? ⟨g, 1, none⟩ = some (.int .i64 i) := (cell_far (p := ⟨g, 1, none⟩) hgne).trans ((HB3.out.cell (p := ⟨g, 1, none⟩) glt).trans c1); have HX3 := Lib.hid (CAt.far b6w3.out (by decide) 0 (.pointer (some ⟨q, 0, none⟩)) (HX.out.below hb)); have HY3 := Lib.hid (CAt.far b6w3.out (by decide) 0 (.pointer (some ⟨q, 0, none⟩)) hy); have b6s := Lib.hid (show (w3.setCell ⟨w.heap.size, 0, none⟩ (.pointer (some ⟨q, 0, none⟩))).heap[w.heap.size]? = some (.cells #[.pointer (some ⟨q, 0, none⟩)] 98 (0, 0)) from blk_put (cs := #[.pointer none]) b6w3.out 0 _ rfl); have HB4 := Lib.hid (show Below w.heap.size w (w3.setCell ⟨w.heap.size, 0, none⟩ (.pointer (some ⟨q, 0, none⟩))) from af_ HB3.out (Nat.le_refl _)); clear hb hy))
            go_region_with (go_at_call 93; refine (asks_calls (i : Int) px q x y _ (HX3.out.below (ah_ (av_ _ _))) (HY3.out.below (ah_ (av_ _ _)))).mono ?_; rintro e w5 ⟨z, rfl, hz, hb⟩; have HB5 := Lib.hid (au_ (ah_ HB4.out) hb); have HZ := Lib.hid hz; have ks := hz.size_cell; have kr4 : (w3.setCell ⟨w.heap.size, 0, none⟩ (.pointer (some ⟨q, 0, none⟩))).drew.cell? ⟨w.heap.size + 1, 0, none⟩ = some (.int .i64 5) := (cell_far (p := ⟨w.heap.size + 1, 0, none⟩) (by simp)).trans krw3; have kr5 : w5.cell? ⟨w.heap.size + 1, 0, none⟩ = some (.int .i64 5) := (hb.cell (p := ⟨w.heap.size + 1, 0, none⟩) (aa_ _ _ kr4)).trans kr4; clear hb hz kr4)
            all_goals go_wp2
            all_goals go_ret
            all_goals exact ⟨HB5.out, rfl⟩
end Go.Proofs.Ytjnaokdncemggaa.PAll

end

section
namespace Go.Proofs.Ytjnaokdncemggaa.PAll
open Go.RowKit Go.Proofs.YtjnaokdncemggaaW.PrintWords Go.Proofs.YtjnaokdncemggaaW.PrintLast Go.Proofs.YtjnaokdncemggaaW.PrintMore
set_option linter.unusedVariables false
set_option linter.unusedSimpArgs false
theorem good_nil (w : World) : Calls Try.prog 76 #[.pointer none] w (RowPost ([], false) w) := by
  go_enter Try.func76, Try.ntmps76
  go_wp2
  go_ret2
  exact ⟨_, rfl, Kd.R_nil _ _ _ _ _, av_ _ _⟩
def handleTo : Option CT → List S83 × Bool
  | none => ([], false)
  | some u => goodOf u
def handleOf (ret : Int) (rs : List S82) (l : List S83) : List S83 × Bool := match cof l with
  | none => ([], false)
  | some t => if goodHB ret rs = true then handleTo (chandle ret rs t) else ([], false)
theorem hat_of {w : World} {gh : Nat} {ret : Int} {A : Option Addr} {c : Nat} {rs : List S82} (hb : w.heap[gh]? = some (.cells #[.int .i64 ret, .slice A rs.length c] 29 (0, 0))) (hr : Kd.C k82 w A rs.length rs) (hg : goodHB ret rs = true) : HAt w gh ret A c rs := by
  unfold goodHB at hg
  simp only [Bool.and_eq_true, decide_eq_true_eq, List.all_eq_true] at hg
  exact ⟨hb, hr, hg.1.2, hg.1.1.1, hg.1.1.2, hg.2⟩
set_option maxRecDepth 100000 in
set_option maxHeartbeats 2000000 in
theorem HandleComp_calls (ret : Int) (rs : List S82) (A0 : Option Addr) (c0 : Nat) (l : List S83) (A : Option Addr) (c : Nat) (w : World) (hr0 : Kd.C k82 w A0 rs.length rs) (hc0 : rs.length ≤ c0) (hr : Kd.C k83 w A l.length l) (hc : l.length ≤ c) :
    Calls Try.prog 53 #[.agg #[.int .i64 ret, .slice A0 rs.length c0], .slice A l.length c] w (RowPost (handleOf ret rs l) w) := by
  have HR0 := Lib.hid hr0
  have HR := Lib.hid hr
  clear hr hr0
  unfold handleOf
  cases hq : cof l with
  | none =>
    simp only
    have HQ := Lib.hid hq
    clear hq
    go_enter Try.func53, Try.ntmps53
    go_wp2_with (go_at_call 66; refine (compOf_calls l A c _ (Kd.C_below HR.out (ai_ (av_ _ _) _)) hc).mono ?_; rw [HQ.out]; rintro e w1 ⟨hb, rfl⟩; have HB := Lib.hid (au_ (ai_ (av_ _ _) _ : Below w.heap.size w _) hb); clear hb)
    go_ret2
    exact ⟨_, rfl, Kd.R_nil _ _ _ _ _, HB.out⟩
  | some t =>
    have ho := cof_ok hq
    have hao := cof_aok hq
    simp only
    have HQ := Lib.hid hq
    clear hq
    cases hg : goodHB ret rs with
    | false =>
      have HG := Lib.hid hg
      rw [if_neg (by simp)]
      clear hg
      go_enter Try.func53, Try.ntmps53
      go_wp2_with (first
        | (go_at_call 66; refine (compOf_calls l A c _ (Kd.C_below HR.out (ai_ (av_ _ _) _)) hc).mono ?_; rw [HQ.out]; rintro e w1 ⟨hb, p, rfl, hp⟩; have HB := Lib.hid (au_ (ai_ (av_ _ _) _ : Below w.heap.size w _) hb); have hx : w1.heap[w.heap.size]? = some (.cells #[.int .i64 ret, .slice A0 rs.length c0] 29 (0, 0)) := (hb.block _ (by simp)).trans (blk_new w _); have x0 : w1.cell? ⟨w.heap.size, 0, none⟩ = some (.int .i64 ret) := (an_ hx 0).trans rfl; have x1 : w1.cell? ⟨w.heap.size, 1, none⟩ = some (.slice A0 rs.length c0) := (an_ hx 1).trans rfl; clear hb hx hp)
        | (go_at_call 16; refine (GoodHandler_calls ret rs A0 c0 _ (Kd.C_below HR0.out HB.out) hc0).mono ?_; rw [HG.out]; rintro e w2 ⟨rfl, hb⟩; have HB2 := Lib.hid (au_ HB.out hb); clear hb))
      go_ret2
      exact ⟨_, rfl, Kd.R_nil _ _ _ _ _, HB2.out⟩
    | true =>
      have HG := Lib.hid hg
      rw [if_pos rfl]
      clear hg
      cases hh : chandle ret rs t with
      | none =>
        simp only [handleTo]
        have HH := Lib.hid hh
        clear hh
        go_enter Try.func53, Try.ntmps53
        go_wp2_with (first
          | (go_at_call 66; refine (compOf_calls l A c _ (Kd.C_below HR.out (ai_ (av_ _ _) _)) hc).mono ?_; rw [HQ.out]; rintro e w1 ⟨hb, p, rfl, hp⟩; have HB := Lib.hid (au_ (ai_ (av_ _ _) _ : Below w.heap.size w _) hb); have hx : w1.heap[w.heap.size]? = some (.cells #[.int .i64 ret, .slice A0 rs.length c0] 29 (0, 0)) := (hb.block _ (by simp)).trans (blk_new w _); have x0 : w1.cell? ⟨w.heap.size, 0, none⟩ = some (.int .i64 ret) := (an_ hx 0).trans rfl; have x1 : w1.cell? ⟨w.heap.size, 1, none⟩ = some (.slice A0 rs.length c0) := (an_ hx 1).trans rfl; have HX := Lib.hid hx; have HP := Lib.hid hp; clear hb hx hp)
          | (go_at_call 16; refine (GoodHandler_calls ret rs A0 c0 _ (Kd.C_below HR0.out HB.out) hc0).mono ?_; rw [HG.out]; rintro e w2 ⟨rfl, hb⟩; have HB12 := Lib.hid hb; have HB2 := Lib.hid (au_ HB.out hb); clear hb)
          | (go_at_call 86; refine (handle_calls w.heap.size ret A0 c0 rs w2 (hat_of ((HB12.out.block _ (blk_lt HX.out)).trans HX.out) (Kd.C_below HR0.out HB2.out) HG.out) t p _ (by repeat (first | exact av_ _ _ | apply ah_ | apply ai_)) (HP.out.below (au_ HB12.out (by repeat (first | exact av_ _ _ | apply ah_ | apply ai_)))) ho hao).mono ?_; rw [HH.out]; rintro e w3 ⟨hb, rfl⟩; have HB3 := Lib.hid (au_ HB2.out (au_ (by repeat (first | exact av_ _ _ | apply ah_ | apply ai_)) hb)); clear hb)
          | (go_at_call 76; refine (good_nil _).mono ?_; rintro e w4 hpost; obtain ⟨v, rfl, hv, hb4⟩ := RowPost.lower HB3.out hpost; have HV := Lib.hid hv; have HB4 := Lib.hid hb4; clear hv hb4 hpost))
        go_ret2
        exact ⟨_, rfl, HV.out, HB4.out⟩
      | some u =>
        simp only [handleTo]
        have HH := Lib.hid hh
        clear hh
        go_enter Try.func53, Try.ntmps53
        go_wp2_with (first
          | (go_at_call 66; refine (compOf_calls l A c _ (Kd.C_below HR.out (ai_ (av_ _ _) _)) hc).mono ?_; rw [HQ.out]; rintro e w1 ⟨hb, p, rfl, hp⟩; have HB := Lib.hid (au_ (ai_ (av_ _ _) _ : Below w.heap.size w _) hb); have hx : w1.heap[w.heap.size]? = some (.cells #[.int .i64 ret, .slice A0 rs.length c0] 29 (0, 0)) := (hb.block _ (by simp)).trans (blk_new w _); have x0 : w1.cell? ⟨w.heap.size, 0, none⟩ = some (.int .i64 ret) := (an_ hx 0).trans rfl; have x1 : w1.cell? ⟨w.heap.size, 1, none⟩ = some (.slice A0 rs.length c0) := (an_ hx 1).trans rfl; have HX := Lib.hid hx; have HP := Lib.hid hp; clear hb hx hp)
          | (go_at_call 16; refine (GoodHandler_calls ret rs A0 c0 _ (Kd.C_below HR0.out HB.out) hc0).mono ?_; rw [HG.out]; rintro e w2 ⟨rfl, hb⟩; have HB12 := Lib.hid hb; have HB2 := Lib.hid (au_ HB.out hb); clear hb)
          | (go_at_call 86; refine (handle_calls w.heap.size ret A0 c0 rs w2 (hat_of ((HB12.out.block _ (blk_lt HX.out)).trans HX.out) (Kd.C_below HR0.out HB2.out) HG.out) t p _ (by repeat (first | exact av_ _ _ | apply ah_ | apply ai_)) (HP.out.below (au_ HB12.out (by repeat (first | exact av_ _ _ | apply ah_ | apply ai_)))) ho hao).mono ?_; rw [HH.out]; rintro e w3 ⟨hb, z, rfl, hz⟩; have HB3 := Lib.hid (au_ HB2.out (au_ (by repeat (first | exact av_ _ _ | apply ah_ | apply ai_)) hb)); have HZ := Lib.hid hz; clear hb hz)
          | (go_at_call 76; refine (good_row u z _ HZ.out).mono ?_; rintro e w4 hpost; obtain ⟨v, rfl, hv, hb4⟩ := RowPost.lower HB3.out hpost; have HV := Lib.hid hv; have HB4 := Lib.hid hb4; clear hv hb4 hpost))
        go_ret2
        exact ⟨_, rfl, HV.out, HB4.out⟩
end Go.Proofs.Ytjnaokdncemggaa.PAll

end

section
namespace Go.Proofs.Ytjnaokdncemggaa.PAll
open Go.RowKit Go.Proofs.YtjnaokdncemggaaW.PrintWords Go.Proofs.YtjnaokdncemggaaW.PrintLast Go.Proofs.YtjnaokdncemggaaW.PrintMore
set_option linter.unusedVariables false
set_option linter.unusedSimpArgs false
theorem kept_cell {w W : World} {S : Nat → Prop} (h : Kept w W S) {p : Addr} (hn : ¬ S p.block) (hlt : p.block < w.heap.size) : W.cell? p = w.cell? p := by
  simp [World.cell?, h.2 _ hlt hn]
theorem kept_get93 {w : World} {S : Nat → Prop} {A : Option Addr} {n : Nat} {xs : List S93} (h : ∀ W, Kept w W S → Kd.C k93 W A n xs) (i : Int) (h0 : 0 ≤ i) (h1 : i < n) :
    ∃ ad A2 c2, A = some ad ∧ (∀ W, Kept w W S → W.cell? (ad.add (i.toNat * 3)) = some (.bool (rd_T93 xs i).f0) ∧ W.cell? ⟨(ad.add (i.toNat * 3)).block, (ad.add (i.toNat * 3)).off + 1, none⟩ = some (.int .i64 (rd_T93 xs i).f1) ∧ W.cell? ⟨(ad.add (i.toNat * 3)).block, (ad.add (i.toNat * 3)).off + 2, none⟩ = some (.slice A2 (rd_T93 xs i).f2.length c2)) ∧ (rd_T93 xs i).f2.length ≤ c2 ∧ ∀ W, Kept w W S → Kd.C k93 W A2 (rd_T93 xs i).f2.length (rd_T93 xs i).f2 := by
  obtain ⟨ad, A2, c2, rfl, p0, p1, p2, l2, g2⟩ := at_T93 (h w (Kept.refl w S)) i h0 h1
  have hn : ¬ S (ad.add (i.toNat * 3)).block := by
    intro hs
    have hk : Kept w (w.setCell ⟨(ad.add (i.toNat * 3)).block, (ad.add (i.toNat * 3)).off + 1, none⟩ (.pointer none)) S := Kept.setCell (p := ⟨(ad.add (i.toNat * 3)).block, (ad.add (i.toNat * 3)).off + 1, none⟩) (Kept.refl w S) (.inl hs) _
    obtain ⟨ad', A2', c2', he, q0, q1, q2, _⟩ := at_T93 (h _ hk) i h0 h1
    injection he with he
    subst he
    have := World.cell?_setCell_same' w ⟨(ad.add (i.toNat * 3)).block, (ad.add (i.toNat * 3)).off + 1, none⟩ (.pointer none) (by rw [p1]; rfl)
    rw [this] at q1
    cases q1
  have hlt := aa_ w _ p0
  refine ⟨ad, A2, c2, rfl, fun W hW => ⟨(kept_cell hW hn hlt).trans p0, (kept_cell hW (p := ⟨(ad.add (i.toNat * 3)).block, (ad.add (i.toNat * 3)).off + 1, none⟩) hn hlt).trans p1, (kept_cell hW (p := ⟨(ad.add (i.toNat * 3)).block, (ad.add (i.toNat * 3)).off + 2, none⟩) hn hlt).trans p2⟩, l2, fun W hW => ?_⟩
  obtain ⟨ad', A2', c2', he, q0, q1, q2, l2', g2'⟩ := at_T93 (h W hW) i h0 h1
  injection he with he
  subst he
  rw [(kept_cell hW (p := ⟨(ad.add (i.toNat * 3)).block, (ad.add (i.toNat * 3)).off + 2, none⟩) hn hlt).trans p2] at q2
  injection q2 with q2
  injection q2 with qa _ _
  rw [qa]
  exact g2'
end Go.Proofs.Ytjnaokdncemggaa.PAll

end

section
namespace Go.Proofs.Ytjnaokdncemggaa.PAll
open Go.RowKit Go.Proofs.YtjnaokdncemggaaW.PrintWords Go.Proofs.YtjnaokdncemggaaW.PrintLast Go.Proofs.YtjnaokdncemggaaW.PrintMore
set_option linter.unusedVariables false
set_option linter.unusedSimpArgs false
def l9fl (f : Bool → Int → List S93 → List S83 → Option (List S83)) : List S93 → List S83 → Option (List S83)
  | [], out => some out
  | x :: l, out => (f x.f0 x.f1 x.f2 out).bind (l9fl f l)
def l9flat : Nat → Bool → Int → List S93 → List S83 → Option (List S83)
  | 0, _, _, _, _ => none
  | k + 1, a0, n, l, out => if out.length < 8796093022208 then (if a0 = true then (if l.length ≤ 1000 then l9fl (l9flat k) l (out ++ [⟨2, n⟩]) else none) else some (out ++ [⟨1, n⟩])) else none
def LFPost (w0 w : World) (P1_ : Nat → Prop) (r : List S83) (e : Ending) (w' : World) : Prop := ∃ v0_ : Value, e = .returned (v0_) ∧ Kd.R k83 83 w' w0.heap.size (fun k_ => (P1_ k_ ∨ w.heap.size ≤ k_)) v0_ r ∧ Below w0.heap.size w0 w' ∧ Kept w w' (fun k_ => P1_ k_)
def FlSt (k : Nat) (l : List S93) (r : List S83) (w0 wb : World) (Q : Nat → Prop) (i : Nat) (wr : World) (v : Value) : Prop :=
  ∃ out, Kd.R k83 83 wr w0.heap.size Q v out ∧ Below w0.heap.size w0 wr ∧ Kept wb wr Q ∧ l9fl (l9flat k) (l.drop i) out = some r
theorem rd93_drop (l : List S93) (i : Nat) (h : i < l.length) : l.drop i = rd_T93 l (i : Int) :: l.drop (i + 1) := by
  rw [List.drop_eq_getElem_cons h]; simp [rd_T93, List.getD_eq_getElem?_getD, List.getElem?_eq_getElem h]
def FlIH (k : Nat) : Prop := ∀ (a0_0 : Bool) (a0_1 : Int) (A0_2 : Option Addr) (c0_2 : Nat) (l0_2 : List (S93)) (P1_ : Nat → Prop) (u9000_ : Value) (l1 : List S83) (r : List S83) (w0 w : World), Below w0.heap.size w0 w → (∀ W_, Kept w W_ (fun k_ => P1_ k_) → Kd.C k93 W_ A0_2 l0_2.length l0_2) → l0_2.length ≤ c0_2 → Kd.R k83 83 w w0.heap.size P1_ u9000_ l1 → l9flat k a0_0 a0_1 l0_2 l1 = some r →
    Calls Try.prog 71 #[.agg #[.bool a0_0, .int .i64 a0_1, .slice A0_2 l0_2.length c0_2], u9000_] w (LFPost w0 w P1_ r)
theorem fl_call {k : Nat} {l : List S93} {r : List S83} {w0 wb wr W : World} {Q : Nat → Prop} {i : Nat} {v : Value} {X : Option Addr} {cx : Nat} (ih : FlIH k) (hst : FlSt k l r w0 wb Q i wr v) (hi : i < l.length)
    (hQ : ∀ k, wb.heap.size ≤ k → Q k) (lx : (rd_T93 l (i : Int)).f2.length ≤ cx) (gx : ∀ W, Kept wb W Q → Kd.C k93 W X (rd_T93 l (i : Int)).f2.length (rd_T93 l (i : Int)).f2) (hb : Below wr.heap.size wr W) :
    Calls Try.prog 71 #[.agg #[.bool (rd_T93 l (i : Int)).f0, .int .i64 (rd_T93 l (i : Int)).f1, .slice X (rd_T93 l (i : Int)).f2.length cx], v] W fun e w' => ∃ v2, e = .returned v2 ∧ FlSt k l r w0 wb Q (i + 1) w' v2 := by
  obtain ⟨out, hR, hB, hK, h⟩ := hst
  rw [rd93_drop l i hi] at h
  simp only [l9fl] at h
  obtain ⟨t, h1, h2⟩ := Option.bind_eq_some_iff.mp h
  have hKW : Kept wb W Q := hK.below hb
  refine (ih _ _ X cx _ Q v out t w0 W (au_ hB hb) (fun W' hW' => gx W' (hKW.then_ hW' (fun k hk => .inl hk))) lx (Kd.R_below hR hb) h1).mono ?_
  rintro e w' ⟨v2, rfl, hR2, hB2, hK2⟩
  exact ⟨v2, rfl, t, Kd.R_mono hR2 (fun k hk => hk.elim id (fun hk => hQ k (Nat.le_trans hKW.1 hk))), hB2, hKW.then_ hK2 (fun k hk => .inl hk), h2⟩
set_option maxHeartbeats 8000000 in
set_option maxRecDepth 100000 in
theorem l9flat_calls (k : Nat) : FlIH k := by
  induction k with
  | zero => intro a0_0 a0_1 A0_2 c0_2 l0_2 P1_ u9000_ l1 r w0 w _ _ _ _ h; simp [l9flat] at h
  | succ k ih =>
    intro a0_0 a0_1 A0_2 c0_2 l0_2 P1_ u9000_ l1 r w0 w hB hr0_2 hc0_2 ho1 h
    simp only [l9flat] at h
    by_cases c3 : l1.length < 8796093022208
    · rw [if_pos c3] at h
      have LMc3 := ab_ c3
      clear c3
      have HR0_2 := ab_ hr0_2
      have HC0_2 := hc0_2
      clear hr0_2 hc0_2
      have HO1 := ab_ (show Kd.R k83 83 w w0.heap.size (fun k_ => (P1_ k_ ∧ k_ < w.heap.size)) u9000_ l1 from Kd.R_mono (Kd.R_bound ho1) (fun k_ hk => ⟨hk.1, hk.2.2.1⟩))
      have HB := ab_ hB
      clear hB ho1
      have IH := Lib.hid ih
      clear ih
      unfold LFPost
      cases a0_0 with
      | false =>
        obtain rfl : l1 ++ [⟨1, a0_1⟩] = r := by simpa using h
        clear h
        go_enter Try.func71, Try.ntmps71
        go_wp2_with (first
          | ((with_reducible refine gate_dst (N := 2) rfl ?_); refine box_event ?hg (N := 2) ?hd (cs := #[.bool false, .int .i64 a0_1, .slice A0_2 l0_2.length c0_2]) (t := 93) ?hr ?_; (case hd => rfl); (case hg => rfl); (case hr => first | (go_simp; done) | (go_simp; rfl)); intro gb hg w4 hbox hb; have K4 := Lib.hid (Kept.of_below hb (fun k_ => P1_ k_)); have B4 := Lib.hid hb; have HX := Lib.hid hbox; have HB4 := Lib.hid (au_ HB.out (show Below w.heap.size w w4 from hb)); have c0 : w4.cell? ⟨gb, 0, none⟩ = some (.bool false) := (an_ hbox 0).trans rfl; have c1 : w4.cell? ⟨gb, 1, none⟩ = some (.int .i64 a0_1) := (an_ hbox 1).trans rfl; clear hb hg hbox)
          | ((with_reducible refine gate_builtin (b := .append) (xs := #[.tmp 10, .tmp 14]) rfl ?_); at_builtin; refine Kd.R_append k83 (w0 := w0) w0.heap.size rfl (.tmp 10) (.tmp 14) 36 83 (.agg #[(.int .i64 0), (.int .i64 0)]) 16 rfl Try.underlying36 info83 rfl (by decide) (by omega) u9000_ l1 (⟨1, a0_1⟩ : S83) [.int .i64 1, .int .i64 a0_1] (fun k_ => (P1_ k_ ∧ k_ < w.heap.size) ∨ w4.heap.size ≤ k_) (fun _ => False) rfl rfl ?aP (fun _ hk => hk.elim) ?aF ?aO ?aB ?aS ?aL ?_; (case aP => exact k83_mkM _ _ _ (⟨1, a0_1⟩ : S83)); (case aB => exact HB4.out); (case aF => exact fun k_ hk => .inr hk); (case aO => exact Kd.R_mono (Kd.R_below HO1.out B4.out) (fun k hk => .inl hk)); (case aS => exact HB4.out.size); (case aL => have := LMc3.out; omega); intro v457 w6 ho hb hg hat; have HO2 := Lib.hid ho; have HBB := Lib.hid hb; have HKK := Lib.hid (Kept.of_grown (S := (fun k_ => P1_ k_)) hg K4.out (fun k_ e_ => .inl (HO1.out.1 k_ e_).1)); clear ho hb hg hat))
        go_ret
        exact ⟨_, rfl, Kd.R_mono HO2.out (fun k hk => hk.elim (fun h => .inl h.1) (fun h => .inr (Nat.le_trans K4.out.1 h))), HBB.out, HKK.out⟩
      | true =>
        rw [if_pos rfl] at h
        have hlen : l0_2.length ≤ 1000 := by
          split at h
          · assumption
          · cases h
        rw [if_pos hlen] at h
        have H := Lib.hid h
        clear h
        go_enter Try.func71, Try.ntmps71
        go_wp2_with (first
          | ((with_reducible refine gate_dst (N := 2) rfl ?_); refine box_event ?hg (N := 2) ?hd (cs := #[.bool true, .int .i64 a0_1, .slice A0_2 l0_2.length c0_2]) (t := 93) ?hr ?_; (case hd => rfl); (case hg => rfl); (case hr => first | (go_simp; done) | (go_simp; rfl)); intro gb hg w4 hbox hb; have K4 := Lib.hid (Kept.of_below hb (fun k_ => P1_ k_)); have B4 := Lib.hid hb; have HG := Lib.hid hg; have HX := Lib.hid hbox; have HB4 := Lib.hid (au_ HB.out (show Below w.heap.size w w4 from hb)); have c0 : w4.cell? ⟨gb, 0, none⟩ = some (.bool true) := (an_ hbox 0).trans rfl; have c1 : w4.cell? ⟨gb, 1, none⟩ = some (.int .i64 a0_1) := (an_ hbox 1).trans rfl; clear hb hg hbox)
          | ((with_reducible refine gate_builtin (b := .append) (xs := #[.tmp 16, .tmp 20]) rfl ?_); at_builtin; refine Kd.R_append k83 (w0 := w0) w0.heap.size rfl (.tmp 16) (.tmp 20) 36 83 (.agg #[(.int .i64 0), (.int .i64 0)]) 16 rfl Try.underlying36 info83 rfl (by decide) (by omega) u9000_ l1 (⟨2, a0_1⟩ : S83) [.int .i64 2, .int .i64 a0_1] (fun k_ => (P1_ k_ ∧ k_ < w.heap.size) ∨ w4.heap.size ≤ k_) (fun _ => False) rfl rfl ?aP (fun _ hk => hk.elim) ?aF ?aO ?aB ?aS ?aL ?_; (case aP => exact k83_mkM _ _ _ (⟨2, a0_1⟩ : S83)); (case aB => exact HB4.out); (case aF => exact fun k_ hk => .inr hk); (case aO => exact Kd.R_mono (Kd.R_below HO1.out B4.out) (fun k hk => .inl hk)); (case aS => exact HB4.out.size); (case aL => have := LMc3.out; omega); intro v457 w6 ho hb hg hat; have hne : ¬ ((P1_ gb ∧ gb < w.heap.size) ∨ w4.heap.size ≤ gb) := (by have := HG.out; have := blk_lt HX.out; rintro (h | h) <;> omega); have HKK := Lib.hid (Kept.of_grown (S := (fun k_ => (P1_ k_ ∧ k_ < w.heap.size) ∨ w4.heap.size ≤ k_)) hg (Kept.refl w4 _) (fun k_ e_ => .inl (.inl (HO1.out.1 k_ e_)))); have c26 : w6.cell? ⟨gb, 2, none⟩ = some (.slice A0_2 l0_2.length c0_2) := (kept_cell HKK.out (p := ⟨gb, 2, none⟩) hne (blk_lt HX.out)).trans ((an_ HX.out 2).trans rfl); have HST := Lib.hid (show FlSt k l0_2 r w0 w4 (fun k_ => (P1_ k_ ∧ k_ < w.heap.size) ∨ w4.heap.size ≤ k_) 0 w6 v457 from ⟨_, ho, hb, HKK.out, by simpa using H.out⟩); clear ho hb hg hat hne))
        have KB := Lib.hid (show ∀ W, Kept w4 W (fun k_ => (P1_ k_ ∧ k_ < w.heap.size) ∨ w4.heap.size ≤ k_) → Kept w W (fun k_ => P1_ k_) from fun W hW => K4.out.then_ hW (fun k hk => hk.elim (fun h => .inl h.1) (fun h => .inr (Nat.le_trans K4.out.1 h))))
        clear c0 c1
        go_loopw [1, 6, 25] (fun v1 v6 v25 wr => ∃ i : Nat, i ≤ l0_2.length ∧ v25 = .int .i64 i ∧ FlSt k l0_2 r w0 w4 (fun k_ => (P1_ k_ ∧ k_ < w.heap.size) ∨ w4.heap.size ≤ k_) i wr v1) (fun _ _ v25 _ => l0_2.length - (intOf v25).toNat)
        case atStart => exact ⟨0, Nat.zero_le _, rfl, HST.out⟩
        case round =>
          obtain ⟨i, hi, rfl, hst⟩ := hrel
          clear c26 HST
          have HST := Lib.hid hst
          clear hst
          by_cases hlt : i < l0_2.length
          · obtain ⟨ad, X, cx, hA, fx, lx, gx⟩ := kept_get93 HR0_2.out (i : Int) (by omega) (by omega)
            subst hA
            obtain ⟨out, _, _, hK, _⟩ := HST.out
            have fx' := fx _ (KB.out _ hK)
            obtain ⟨f0, f1, f2⟩ := fx'
            have GX := Lib.hid (show ∀ W, Kept w4 W (fun k_ => (P1_ k_ ∧ k_ < w.heap.size) ∨ w4.heap.size ≤ k_) → Kd.C k93 W X (rd_T93 l0_2 (i : Int)).f2.length (rd_T93 l0_2 (i : Int)).f2 from fun W hW => gx W (KB.out W hW))
            rw [Int.toNat_natCast] at f0 f1 f2
            clear fx gx hK
            go_wp2_with fail
            (refine (fl_call IH.out HST.out hlt (fun k hk => .inr hk) lx GX.out (ai_ (av_ _ _) _)).mono ?_; rintro e w' ⟨v2, rfl, hst⟩; have HST2 := Lib.hid hst; clear hst)
            go_wp2
            go_roundw
            case rel => exact ⟨i + 1, by omega, by go_num, HST2.out⟩
            case measure => simp [intOf]; omega
          · obtain rfl : i = l0_2.length := by omega
            go_wp2
            go_ret
            obtain ⟨out, hR, hB', hK, hh⟩ := HST.out
            rw [List.drop_eq_nil_of_le (Nat.le_refl _)] at hh
            obtain rfl := Option.some.inj hh
            exact ⟨_, rfl, Kd.R_mono hR (fun k hk => hk.elim (fun h => .inl h.1) (fun h => .inr (Nat.le_trans K4.out.1 h))), hB', KB.out _ hK⟩
    · rw [if_neg c3] at h; cases h
end Go.Proofs.Ytjnaokdncemggaa.PAll

end

section
namespace Go.Proofs.Ytjnaokdncemggaa.PAll
open Go.RowKit Go.Proofs.YtjnaokdncemggaaW.PrintWords Go.Proofs.YtjnaokdncemggaaW.PrintLast Go.Proofs.YtjnaokdncemggaaW.PrintMore
attribute [local go_sem] max2_int min2_int max_two min_two max_three min_three max_four min_four   -- for this text's walks alone
set_option linter.unusedVariables false
set_option linter.unusedSimpArgs false
def laws_markRuleS.l0 : Nat → List (S82) → Int → Int → Option (Int × (List (S82)))
  | 0, _, _, _ => none
  | k + 1, x0, x1, x5 => if x5 < (x0.length : Int) then (if 0 ≤ x5 then ((some (x0.set (x5 : Int).toNat (⟨x1, (rd_T82 x0 x5).f1⟩ : S82) : List (S82))).bind fun y259 => (laws_markRuleS.l0 k (y259.set (x5 : Int).toNat (⟨(rd_T82 y259 x5).f0, wrap64 (x1 + 1)⟩ : S82)) (wrap64 ((wrap64 (x1 + 1)) + 1)) (wrap64 (x5 + 1)))) else (none)) else (some (x1, x0))
def laws_markRuleS.f (k : Nat) (l0 : List (S82)) (a1 : Int) : Option (Int × (List (S82))) := laws_markRuleS.l0 k l0 a1 0
theorem laws_markRuleS.mono_l : ∀ k, (∀ y0 y1 y2, LeO (laws_markRuleS.l0 k y0 y1 y2) (laws_markRuleS.l0 (k + 1) y0 y1 y2))
  | 0 => fun _ _ _ r h => by simp [laws_markRuleS.l0] at h
  | k + 1 => by
    have ih0 := laws_markRuleS.mono_l k
    · intro y0 y1 y2
      unfold laws_markRuleS.l0
      repeat' first
      | (with_reducible exact ih0 _ _ _)
      | (with_reducible exact LeO.refl _)
      | (with_reducible exact LeO.none _)
      | (with_reducible refine LeO.ite ?_ ?_)
      | (with_reducible refine LeO.bind ?_ (fun _ => ?_))
      | exact ih0 _ _ _
      | exact LeO.none _
      | refine LeO.ite ?_ ?_
      | refine LeO.bind ?_ (fun _ => ?_)
theorem laws_markRuleS.mono : ∀ a0 a1 k, LeO (laws_markRuleS.f k a0 a1) (laws_markRuleS.f (k + 1) a0 a1) := by
  intro a0 a1 k
  have ih0 := laws_markRuleS.mono_l k
  unfold laws_markRuleS.f
  repeat' first
      | (with_reducible exact ih0 _ _ _)
      | (with_reducible exact LeO.refl _)
      | (with_reducible exact LeO.none _)
      | (with_reducible refine LeO.ite ?_ ?_)
      | (with_reducible refine LeO.bind ?_ (fun _ => ?_))
      | exact ih0 _ _ _
      | exact LeO.none _
      | refine LeO.ite ?_ ?_
      | refine LeO.bind ?_ (fun _ => ?_)
set_option maxHeartbeats 8000000 in
set_option maxRecDepth 100000 in
theorem laws_markRuleS.calls (k : Nat) (P0_ : Nat → Prop) (u9000_ : Value) (l0 : List (S82)) (a1 : Int) (r1 : Int) (r2 : List (S82)) (w0 w : World) (hB : Below w0.heap.size w0 w) (ho0 : Kd.R k82 82 w w0.heap.size P0_ u9000_ l0) (h : laws_markRuleS.f k l0 a1 = some (r1, r2)) :
    Calls Try.prog 68 #[u9000_, .int .i64 a1] w fun e w' => e = .returned (.int .i64 r1) ∧ Kd.R k82 82 w' w0.heap.size (fun k_ => (P0_ k_ ∨ w.heap.size ≤ k_)) u9000_ r2 ∧ Below w0.heap.size w0 w' ∧ Kept w w' (fun k_ => P0_ k_) := by
  have HO0 := ab_ (show Kd.R k82 82 w w0.heap.size (fun k_ => (P0_ k_ ∨ w.heap.size ≤ k_)) u9000_ l0 from Kd.R_mono ho0 (fun k_ hk => (.inl hk)))
  have HK := ab_ (Kept.refl w (fun k_ => P0_ k_))
  have HW0 := ab_ hB.size
  have HB := ab_ hB
  clear hB
  have H : (laws_markRuleS.l0 k l0 a1 0) = some (r1, r2) := h
  clear h
  have H' := ab_ H
  clear H
  go_enter Try.func68, Try.ntmps68
  go_wp2
  go_loopg [1, 5] k (fun kq v1 v5 w' => ∃ (x0_1 : List (S82)) (x1_1 : Int) (x5_1 : Int), v1 = .int .i64 x1_1 ∧ v5 = .int .i64 x5_1 ∧ Aside0 (laws_markRuleS.l0 kq x0_1 x1_1 x5_1 = some (r1, r2)) ∧ Aside0 (kq ≤ k) ∧ Aside0 (Kd.R k82 82 w' w0.heap.size (fun k_ => (P0_ k_ ∨ w.heap.size ≤ k_)) u9000_ x0_1) ∧ Aside0 (Kept w w' (fun k_ => P0_ k_)) ∧ Aside0 (Below w0.heap.size w0 w'))
  case atStart => exact ⟨(l0), (a1), (0), (by first | rfl | (simp; done) | (simp [*]; done)), (by first | rfl | (simp; done) | (simp [*]; done)), H', ⟨Nat.le_refl _⟩, ⟨by (with_reducible repeat (first | apply ao_ | apply ap_ | apply aq_)); exact HO0.out⟩, ⟨by repeat (first | (with_reducible first | exact HK.out | apply Kept.alloc | apply Kept.drewN | apply Kept.drew) | exact HK.out)⟩, ⟨by repeat (first | (with_reducible first | exact HB.out | apply ai_ | apply ag_ | apply ah_) | exact HB.out)⟩⟩
  case round =>
    clear H'
    try clear p2
    obtain ⟨x0_1, x1_1, x5_1, rfl, rfl, HA, HK1, HO_0, HK, HB⟩ := hrel
    cases gk with
    | zero => exact absurd HA.out (by simp [laws_markRuleS.l0])
    | succ k1 =>
      have H := HA.out
      clear HA
      simp only [laws_markRuleS.l0] at H
      by_cases c3 : x5_1 < (x0_1.length : Int)
      · rw [if_pos c3] at H
        have c3b0 : decide (x5_1 < (x0_1.length : Int)) = true := at_ c3
        clear c3
        by_cases c4 : 0 ≤ x5_1
        · rw [if_pos c4] at H
          have c4b0 : decide (0 ≤ x5_1) = true := at_ c4
          clear c4
          obtain ⟨y259, hy259⟩ : ∃ y_ : List (S82), y_ = (x0_1.set (x5_1 : Int).toNat (⟨x1_1, (rd_T82 x0_1 x5_1).f1⟩ : S82)) := ⟨_, rfl⟩
          replace H : (laws_markRuleS.l0 k1 (y259.set (x5_1 : Int).toNat (⟨(rd_T82 y259 x5_1).f0, wrap64 (x1_1 + 1)⟩ : S82)) (wrap64 ((wrap64 (x1_1 + 1)) + 1)) (wrap64 (x5_1 + 1))) = some (r1, r2) := by first | (rw [hy259]; with_reducible exact H) | (have H2_ := (Option.bind_some _ _).symm.trans H; rw [hy259]; with_reducible exact H2_) | (have H2_ := (Option.bind_some _ _).symm.trans H; with_reducible exact H2_) | with_reducible exact H | (rw [hy259]; exact H) | exact H
          have Ny259 := ab_ hy259
          clear hy259
          obtain ⟨y260, hy260⟩ : ∃ y_ : List (S82), y_ = (y259.set (x5_1 : Int).toNat (⟨(rd_T82 y259 x5_1).f0, wrap64 (x1_1 + 1)⟩ : S82)) := ⟨_, rfl⟩
          replace H : (laws_markRuleS.l0 k1 y260 (wrap64 ((wrap64 (x1_1 + 1)) + 1)) (wrap64 (x5_1 + 1))) = some (r1, r2) := by first | (rw [hy260]; with_reducible exact H) | (have H2_ := (Option.bind_some _ _).symm.trans H; rw [hy260]; with_reducible exact H2_) | (have H2_ := (Option.bind_some _ _).symm.trans H; with_reducible exact H2_) | with_reducible exact H | (rw [hy260]; exact H) | exact H
          have Ny260 := ab_ hy260
          clear hy260
          have H' := ab_ H
          clear H
          obtain ⟨Ao7, co7, eo7⟩ := Kd.R_slice HO_0.out
          subst eo7
          have p5 : 0 ≤ (x5_1 : Int) := of_decide_eq_true (by first | (with_reducible assumption) | assumption)
          have q5 : (x5_1 : Int) < ((x0_1.length : Int) : Int) := of_decide_eq_true (by first | (with_reducible assumption) | assumption)
          obtain ⟨go5, co5, eo5, gb5, gl5, cl5, HG5⟩ := Kd.R_form HO_0.out (by omega)
          (first | cases eo5 | (injection eo5 with ea_ en_ ec_; (first | subst ea_ | (injection ea_ with ea_; subst ea_)); subst ec_; clear en_))
          have GB5 := ab_ gb5
          have GG5 := ab_ HG5
          clear gb5 gl5 HG5
          have HMgo5 := ab_ (show (P0_ go5 ∨ w.heap.size ≤ go5) from (HO_0.out.1 _ rfl))
          obtain ⟨ce5, hcl5, hM5, hcc5, hfr5⟩ := Kd.R_elem HO_0.out z82 (x5_1 : Int) p5 q5
          obtain rfl := k82_openM hM5
          have hx5_0 : wr.cell? ⟨go5, (x5_1 : Int).toNat * 2, none⟩ = some (.int .i64 ((rd_T82 x0_1 x5_1).f0)) := hcc5 0 _ rfl
          have hx5_1 : wr.cell? ⟨go5, (x5_1 : Int).toNat * 2 + 1, none⟩ = some (.int .i64 ((rd_T82 x0_1 x5_1).f1)) := hcc5 1 _ rfl
          have hf5_0 : wr.frozen? ⟨go5, (x5_1 : Int).toNat * 2, none⟩ = false := hfr5 0
          have hf5_1 : wr.frozen? ⟨go5, (x5_1 : Int).toNat * 2 + 1, none⟩ = false := hfr5 1
          (try clear hcl5); (try clear hcc5); (try clear hfr5); (try clear hM5)
          replace p5 := eq_true p5
          replace q5 := eq_true q5
          have HX8 := ab_ (show Kd.R k82 82 wr w0.heap.size (fun k_ => (P0_ k_ ∨ w.heap.size ≤ k_)) (.slice (some ⟨go5, 0, none⟩) x0_1.length co7) x0_1 from (by (with_reducible repeat (first | apply ao_ | apply ap_ | apply aq_)); exact HO_0.out))
          obtain ⟨ce8, hcl8, hM8, hcc8, hfr8⟩ := Kd.R_elem HX8.out z82 (x5_1 : Int) (of_decide_eq_true (by first | (with_reducible assumption) | assumption)) (by have h_ : (x5_1 : Int) < ((x0_1.length : Int) : Int) := of_decide_eq_true (by first | (with_reducible assumption) | assumption); first | exact h_ | (have e_ := (Kd.R_reads' HO_0.out).1; omega) | simpa using h_)
          obtain rfl := k82_openM hM8
          have HP8 := Kd.R_seg HX8.out (x5_1 : Int) (of_decide_eq_true (by first | (with_reducible assumption) | assumption)) (by have h_ : (x5_1 : Int) < ((x0_1.length : Int) : Int) := of_decide_eq_true (by first | (with_reducible assumption) | assumption); first | exact h_ | (have e_ := (Kd.R_reads' HO_0.out).1; omega) | simpa using h_) (seg := [.int .i64 x1_1]) (j := 0) hcl8 hcc8 (show 1 ≤ 2 from by decide) (x' := (⟨x1_1, (rd_T82 x0_1 x5_1).f1⟩ : S82)) (k82_mkM _ _ _ (⟨x1_1, (rd_T82 x0_1 x5_1).f1⟩ : S82) ) (fun _ hk => hk)
          have hx8_0 := hcc8 0 _ rfl
          (try simp only [show (k82).sz = 2 from rfl, Nat.mul_one, Nat.add_zero] at hx8_0)
          have hf8_0 := hfr8 0
          (try simp only [show (k82).sz = 2 from rfl, Nat.mul_one, Nat.add_zero] at hf8_0)
          (try clear hcl8); (try clear hcc8); (try clear hfr8); (try clear hM8)
          go_wp2_with (first | ((with_reducible refine gate_store (t := 3) (p := 16) rfl ?_); refine store_event (t := 3) (p := 16) (v := ?vo_w9) (w1 := (wr.setCell ⟨go5, (x5_1 : Int).toNat * 2, none⟩ (.int .i64 x1_1))) ?hg ?ho ?hn ?hr ?_; (case ho => rfl); (case hg => rfl); (case hn => rfl); (case hr => first | (go_simp; done) | (go_simp; rfl)); intro w9 hw; have hg : wr.grownBy w9 (some go5) := (by rw [hw]; exact HP8.2); have hp_ : Kd.R k82 82 w9 w0.heap.size (fun k_ => (P0_ k_ ∨ w.heap.size ≤ k_)) (.slice (some ⟨go5, 0, none⟩) x0_1.length co7) y259 := (by rw [hw, Ny259.out]; exact HP8.1); clear HP8; have n0_ := ab_ (hp_); have n1_ := ab_ ((by rw [hw]; exact af_ (HB.out) GB5.out : Below w0.heap.size w0 w9)); have n2_ := ab_ (Kept.of_grown (S := (fun k_ => P0_ k_)) hg (by repeat (first | (with_reducible first | exact HK.out | apply Kept.alloc | apply Kept.drewN | apply Kept.drew) | exact HK.out)) (fun k_ e_ => (HO_0.out.1 k_ e_))); clear HO_0; clear HB; clear HK; have HO_0 := n0_; have HB := n1_; have HK := n2_; clear n0_ n1_ n2_; clear hg hw hp_; have p6 : 0 ≤ (x5_1 : Int) := of_decide_eq_true (by first | (with_reducible assumption) | assumption); have q6 : (x5_1 : Int) < ((x0_1.length : Int) : Int) := of_decide_eq_true (by first | (with_reducible assumption) | assumption); obtain ⟨ce6, hcl6, hM6, hcc6, hfr6⟩ := Kd.R_elem HO_0.out z82 (x5_1 : Int) p6 q6; obtain rfl := k82_openM hM6; have hx6_0 : w9.cell? ⟨go5, (x5_1 : Int).toNat * 2, none⟩ = some (.int .i64 ((rd_T82 y259 x5_1).f0)) := hcc6 0 _ rfl; have hx6_1 : w9.cell? ⟨go5, (x5_1 : Int).toNat * 2 + 1, none⟩ = some (.int .i64 ((rd_T82 y259 x5_1).f1)) := hcc6 1 _ rfl; have hf6_0 : w9.frozen? ⟨go5, (x5_1 : Int).toNat * 2, none⟩ = false := hfr6 0; have hf6_1 : w9.frozen? ⟨go5, (x5_1 : Int).toNat * 2 + 1, none⟩ = false := hfr6 1; (try clear hcl6); (try clear hcc6); (try clear hfr6); (try clear hM6); replace p6 := eq_true p6; replace q6 := eq_true q6; have HX10 := ab_ (show Kd.R k82 82 w9 w0.heap.size (fun k_ => (P0_ k_ ∨ w.heap.size ≤ k_)) (.slice (some ⟨go5, 0, none⟩) x0_1.length co7) y259 from (by (with_reducible repeat (first | apply ao_ | apply ap_ | apply aq_)); exact HO_0.out)); obtain ⟨ce10, hcl10, hM10, hcc10, hfr10⟩ := Kd.R_elem HX10.out z82 (x5_1 : Int) (of_decide_eq_true (by first | (with_reducible assumption) | assumption)) (by have h_ : (x5_1 : Int) < ((x0_1.length : Int) : Int) := of_decide_eq_true (by first | (with_reducible assumption) | assumption); first | exact h_ | (have e_ := (Kd.R_reads' HO_0.out).1; omega) | simpa using h_); obtain rfl := k82_openM hM10; have HP10 := Kd.R_seg HX10.out (x5_1 : Int) (of_decide_eq_true (by first | (with_reducible assumption) | assumption)) (by have h_ : (x5_1 : Int) < ((x0_1.length : Int) : Int) := of_decide_eq_true (by first | (with_reducible assumption) | assumption); first | exact h_ | (have e_ := (Kd.R_reads' HO_0.out).1; omega) | simpa using h_) (seg := [.int .i64 (wrap64 (x1_1 + 1))]) (j := 1) hcl10 hcc10 (show 2 ≤ 2 from by decide) (x' := (⟨(rd_T82 y259 x5_1).f0, wrap64 (x1_1 + 1)⟩ : S82)) (k82_mkM _ _ _ (⟨(rd_T82 y259 x5_1).f0, wrap64 (x1_1 + 1)⟩ : S82) ) (fun _ hk => hk); have hx10_1 := hcc10 1 _ rfl; (try simp only [show (k82).sz = 2 from rfl, Nat.mul_one, Nat.add_zero] at hx10_1); have hf10_1 := hfr10 1; (try simp only [show (k82).sz = 2 from rfl, Nat.mul_one, Nat.add_zero] at hf10_1); (try clear hcl10); (try clear hcc10); (try clear hfr10); (try clear hM10)) | ((with_reducible refine gate_store (t := 3) (p := 23) rfl ?_); refine store_event (t := 3) (p := 23) (v := ?vo_w11) (w1 := (w9.setCell ⟨go5, (x5_1 : Int).toNat * 2 + 1, none⟩ (.int .i64 (wrap64 (x1_1 + 1))))) ?hg ?ho ?hn ?hr ?_; (case ho => rfl); (case hg => rfl); (case hn => rfl); (case hr => first | (go_simp; done) | (go_simp; rfl)); intro w11 hw; have hg : w9.grownBy w11 (some go5) := (by rw [hw]; exact HP10.2); have hp_ : Kd.R k82 82 w11 w0.heap.size (fun k_ => (P0_ k_ ∨ w.heap.size ≤ k_)) (.slice (some ⟨go5, 0, none⟩) x0_1.length co7) y260 := (by rw [hw, Ny260.out]; exact HP10.1); clear HP10; have n0_ := ab_ (hp_); have n1_ := ab_ ((by rw [hw]; exact af_ (HB.out) GB5.out : Below w0.heap.size w0 w11)); have n2_ := ab_ (Kept.of_grown (S := (fun k_ => P0_ k_)) hg (by repeat (first | (with_reducible first | exact HK.out | apply Kept.alloc | apply Kept.drewN | apply Kept.drew) | exact HK.out)) (fun k_ e_ => (HO_0.out.1 k_ e_))); clear HO_0; clear HB; clear HK; have HO_0 := n0_; have HB := n1_; have HK := n2_; clear n0_ n1_ n2_; clear hg hw hp_))
          go_roundg k1
          case measure => have := HK1.out; omega
          case rel => exact ⟨(y260), (wrap64 ((wrap64 (x1_1 + 1)) + 1)), (wrap64 (x5_1 + 1)), (by first | rfl | (simp; done) | (simp [*]; done)), (by first | rfl | (simp; done) | (simp [*]; done)), H', ⟨by have := HK1.out; omega⟩, ⟨by (with_reducible repeat (first | apply ao_ | apply ap_ | apply aq_)); exact HO_0.out⟩, ⟨by repeat (first | (with_reducible first | exact HK.out | apply Kept.alloc | apply Kept.drewN | apply Kept.drew) | exact HK.out)⟩, ⟨by repeat (first | (with_reducible first | exact HB.out | apply ai_ | apply ag_ | apply ah_) | exact HB.out)⟩⟩
        · rw [if_neg c4] at H
          exact absurd H (by simp)
      · rw [if_neg c3] at H
        have c3b0 : decide (x5_1 < (x0_1.length : Int)) = false := decide_eq_false c3
        clear c3
        simp only [Option.some.injEq, Prod.mk.injEq] at H
        obtain ⟨rfl, rfl⟩ := H
        obtain ⟨Ao12, co12, eo12⟩ := Kd.R_slice HO_0.out
        subst eo12
        go_wp2
        go_ret
        exact ⟨by first | rfl | (simp [errW_none, errW_some] <;> rfl) | (simp [*, errW_none, errW_some] <;> rfl), by (with_reducible repeat (first | apply ao_ | apply ap_ | apply aq_)); exact HO_0.out, by repeat (first | (with_reducible first | exact HB.out | apply ai_ | apply ag_ | apply ah_) | exact HB.out), by repeat (first | (with_reducible first | exact HK.out | apply Kept.alloc | apply Kept.drewN | apply Kept.drew) | exact HK.out)⟩
def laws_markHandler.f (k : Nat) (a0_0 : Int) (l0_1 : List (S82)) (a1 : Int) : Option (Int × (List (S82))) := (laws_markRuleS.f k l0_1 a1).bind fun bt262 => (some (bt262.1, bt262.2))
theorem laws_markHandler.mono : ∀ a0 a1 a2 k, LeO (laws_markHandler.f k a0 a1 a2) (laws_markHandler.f (k + 1) a0 a1 a2) := by
  intro a0 a1 a2 k
  unfold laws_markHandler.f
  repeat' first
      | (with_reducible exact laws_markRuleS.mono _ _ _)
      | (with_reducible exact LeO.refl _)
      | (with_reducible exact LeO.none _)
      | (with_reducible refine LeO.ite ?_ ?_)
      | (with_reducible refine LeO.bind ?_ (fun _ => ?_))
      | exact laws_markRuleS.mono _ _ _
      | exact LeO.none _
      | refine LeO.ite ?_ ?_
      | refine LeO.bind ?_ (fun _ => ?_)
set_option maxHeartbeats 8000000 in
set_option maxRecDepth 100000 in
theorem laws_markHandler.calls (k : Nat) (a0_0 : Int) (P0_1_ : Nat → Prop) (u9000_ : Value) (l0_1 : List (S82)) (a1 : Int) (r1 : Int) (r2 : List (S82)) (w0 w : World) (hB : Below w0.heap.size w0 w) (ho0_1 : Kd.R k82 82 w w0.heap.size P0_1_ u9000_ l0_1) (h : laws_markHandler.f k a0_0 l0_1 a1 = some (r1, r2)) :
    Calls Try.prog 25 #[.agg #[.int .i64 a0_0, u9000_], .int .i64 a1] w fun e w' => e = .returned (.int .i64 r1) ∧ Kd.R k82 82 w' w0.heap.size (fun k_ => (P0_1_ k_ ∨ w.heap.size ≤ k_)) u9000_ r2 ∧ Below w0.heap.size w0 w' ∧ Kept w w' (fun k_ => P0_1_ k_) := by
  have hu29 := Try.underlying29
  have HO0_1 := ab_ (show Kd.R k82 82 w w0.heap.size (fun k_ => (P0_1_ k_ ∨ w.heap.size ≤ k_)) u9000_ l0_1 from Kd.R_mono ho0_1 (fun k_ hk => (.inl hk)))
  have HK := ab_ (Kept.refl w (fun k_ => P0_1_ k_))
  have HW0 := ab_ hB.size
  have HB := ab_ hB
  clear hB
  have H : ((laws_markRuleS.f k l0_1 a1).bind fun bt262 => (some (bt262.1, bt262.2))) = some (r1, r2) := h
  clear h
  replace H := Option.bind_eq_some_iff.mp H
  obtain ⟨⟨t262, t263⟩, A30, H⟩ := H
  replace H : (some (t262, t263)) = some (r1, r2) := H
  have A3 := ab_ A30
  clear A30
  simp only [Option.some.injEq, Prod.mk.injEq] at H
  obtain ⟨rfl, rfl⟩ := H
  obtain ⟨Ao4, co4, eo4⟩ := Kd.R_slice HO0_1.out
  subst eo4
  go_enter Try.func25, Try.ntmps25
  go_wp2_with (first | ((with_reducible refine gate_dst (N := 2) rfl ?_); refine box_event ?hg (N := 2) ?hd (cs := #[.int .i64 a0_0, .slice Ao4 l0_1.length co4]) (t := 29) ?hr ?_; (case hd => rfl); (case hg => rfl); (case hr => first | (go_simp; done) | (go_simp; rfl)); intro gb261 hg w5 hbox hb; have n0_ := ab_ (Kd.R_below (by (with_reducible repeat (first | apply ao_ | apply ap_ | apply aq_)); exact HO0_1.out) hb); have n1_ := ab_ (Kept.below (S := (fun k_ => P0_1_ k_)) (by repeat (first | (with_reducible first | exact HK.out | apply Kept.alloc | apply Kept.drewN | apply Kept.drew) | exact HK.out)) hb); have n2_ := ab_ (au_ (by repeat (first | (with_reducible first | exact HB.out | apply ai_ | apply ag_ | apply ah_) | exact HB.out)) hb); have n3_ := ab_ (hbox); have n4_ := ab_ ((by rw [hg]; exact (by first | exact HK.out.1 | exact (show Kept w _ (fun k_ => P0_1_ k_) from by repeat (first | (with_reducible first | exact HK.out | apply Kept.alloc | apply Kept.drewN | apply Kept.drew) | exact HK.out)).1) : w.heap.size ≤ gb261)); have n5_ := ab_ ((by rw [hg]; exact (below_size (by repeat (first | (with_reducible first | exact HB.out | apply ai_ | apply ag_ | apply ah_) | exact HB.out))) : w0.heap.size ≤ gb261)); clear HO0_1; clear HK; clear HB; have HO0_1 := n0_; have HK := n1_; have HB := n2_; have BK261 := n3_; have GW261 := n4_; have GE261 := n5_; clear n0_ n1_ n2_ n3_ n4_ n5_; clear hb hbox hg; have hcz6_0 : w5.cell? ⟨gb261, 0, none⟩ = some (.int .i64 a0_0) := (an_ BK261.out 0).trans rfl; have hcz6_1 : w5.cell? ⟨gb261, 1, none⟩ = some (.slice Ao4 l0_1.length co4) := (an_ BK261.out 1).trans rfl; have hfz6_0 := am_ BK261.out 0; have hfz6_1 := am_ BK261.out 1) | ((with_reducible refine gate_callee (f := 68) rfl ?_); refine goesL_ (some 8) rfl rfl Try.func68 (by kernel_rfl) rfl #[.slice Ao4 l0_1.length co4, .int .i64 a1] rfl (by (try simp only [List.map_toArray, List.map_cons, List.map_nil]); first | done | rfl | (simp only [List.length_drop, List.length_take]; rfl)) ?_; (with_reducible refine (laws_markRuleS.calls k (fun k_ => some k_ = (.slice Ao4 l0_1.length co4 : Value).ownBlock) (.slice Ao4 l0_1.length co4) l0_1 a1 t262 t263 w0 _ ?side1 ?side2 A3.out).mono ?_); (case side1 => repeat (first | (with_reducible first | exact HB.out | apply ai_ | apply ag_ | apply ah_ | refine af_ ?_ GE261.out) | exact HB.out)); (case side2 => exact Kd.R_tight rfl HO0_1.out); rintro e w7 ⟨rfl, hy0, hb, hkp⟩; refine ⟨_, rfl, ?_⟩; have n0_ := ab_ (Kd.R_reok rfl hy0 (fun k_ e_ => HO0_1.out.1 k_ e_)); have n1_ := ab_ (blk_kept (by (with_reducible repeat (first | refine ac_ ?_ _ | refine ae_ ?_ | refine ad_ ?_ _)); exact BK261.out) hkp (fun hs_ => (fun e_ => (Kd.R_ne HO0_1.out BK261.out (by decide)) e_) hs_)); have n2_ := ab_ (Kept.then_ (S := (fun k_ => P0_1_ k_)) (by repeat (first | (with_reducible first | exact HK.out | apply Kept.alloc | apply Kept.drewN | apply Kept.drew | refine Kept.setCell ?_ (.inr GW261.out) _) | exact HK.out)) hkp (fun k_ hs_ => (fun e_ => (HO0_1.out.1 k_ e_.symm)) hs_)); have n3_ := ab_ (hb); clear HO0_1; clear BK261; clear HK; clear HB; have HO0_1 := n0_; have BK261 := n1_; have HK := n2_; have HB := n3_; clear n0_ n1_ n2_ n3_; (try clear hb); (try clear hkp); (try clear hy0)))
  go_ret
  exact ⟨by first | rfl | (simp [errW_none, errW_some] <;> rfl) | (simp [*, errW_none, errW_some] <;> rfl), by (with_reducible repeat (first | apply ao_ | apply ap_ | apply aq_)); exact HO0_1.out, by repeat (first | (with_reducible first | exact HB.out | apply ai_ | apply ag_ | apply ah_ | refine af_ ?_ GE261.out) | exact HB.out), by repeat (first | (with_reducible first | exact HK.out | apply Kept.alloc | apply Kept.drewN | apply Kept.drew | refine Kept.setCell ?_ (.inr GW261.out) _) | exact HK.out)⟩
def laws_heldRuleS.l0 : Nat → List (S82) → Int → Int → Option (Int)
  | 0, _, _, _ => none
  | k + 1, x0, x1, x5 => if x5 < (x0.length : Int) then (if 0 ≤ x5 then (if ((rd_T82 x0 x5).f0) = x1 then (if ((rd_T82 x0 x5).f1) = (wrap64 (x1 + 1)) then (laws_heldRuleS.l0 k x0 (wrap64 ((wrap64 (x1 + 1)) + 1)) (wrap64 (x5 + 1))) else (some (-1))) else (some (-1))) else (none)) else (some x1)
def laws_heldRuleS.f (k : Nat) (l0 : List (S82)) (a1 : Int) : Option (Int) := laws_heldRuleS.l0 k l0 a1 0
theorem laws_heldRuleS.mono_l : ∀ k, (∀ y0 y1 y2, LeO (laws_heldRuleS.l0 k y0 y1 y2) (laws_heldRuleS.l0 (k + 1) y0 y1 y2))
  | 0 => fun _ _ _ r h => by simp [laws_heldRuleS.l0] at h
  | k + 1 => by
    have ih0 := laws_heldRuleS.mono_l k
    · intro y0 y1 y2
      unfold laws_heldRuleS.l0
      repeat' first
      | (with_reducible exact ih0 _ _ _)
      | (with_reducible exact LeO.refl _)
      | (with_reducible exact LeO.none _)
      | (with_reducible refine LeO.ite ?_ ?_)
      | (with_reducible refine LeO.bind ?_ (fun _ => ?_))
      | exact ih0 _ _ _
      | exact LeO.none _
      | refine LeO.ite ?_ ?_
      | refine LeO.bind ?_ (fun _ => ?_)
theorem laws_heldRuleS.mono : ∀ a0 a1 k, LeO (laws_heldRuleS.f k a0 a1) (laws_heldRuleS.f (k + 1) a0 a1) := by
  intro a0 a1 k
  have ih0 := laws_heldRuleS.mono_l k
  unfold laws_heldRuleS.f
  repeat' first
      | (with_reducible exact ih0 _ _ _)
      | (with_reducible exact LeO.refl _)
      | (with_reducible exact LeO.none _)
      | (with_reducible refine LeO.ite ?_ ?_)
      | (with_reducible refine LeO.bind ?_ (fun _ => ?_))
      | exact ih0 _ _ _
      | exact LeO.none _
      | refine LeO.ite ?_ ?_
      | refine LeO.bind ?_ (fun _ => ?_)
set_option maxHeartbeats 8000000 in
set_option maxRecDepth 100000 in
theorem laws_heldRuleS.calls (k : Nat) (A0 : Option Addr) (c0 : Nat) (l0 : List (S82)) (a1 : Int) (r : Int) (w : World) (hr0 : Kd.C k82 w A0 l0.length l0) (hc0 : l0.length ≤ c0) (h : laws_heldRuleS.f k l0 a1 = some r) :
    Calls Try.prog 69 #[.slice A0 l0.length c0, .int .i64 a1] w fun e w' => e = .returned (.int .i64 r) ∧ Drawn0 w w' := by
  have HR0 := ab_ hr0
  have HC0 := ab_ hc0
  clear hr0 hc0
  have H : (laws_heldRuleS.l0 k l0 a1 0) = some r := h
  clear h
  have H' := ab_ H
  clear H
  go_enter Try.func69, Try.ntmps69
  go_wp2
  go_loopg [1, 5] k (fun kq v1 v5 w' => ∃ (x1_1 : Int) (x5_1 : Int), v1 = .int .i64 x1_1 ∧ v5 = .int .i64 x5_1 ∧ Aside0 (laws_heldRuleS.l0 kq l0 x1_1 x5_1 = some r) ∧ Aside0 (kq ≤ k) ∧ Drawn0 w w')
  case atStart => exact ⟨(a1), (0), (by first | rfl | (simp; done) | (simp [*]; done)), (by first | rfl | (simp; done) | (simp [*]; done)), H', ⟨Nat.le_refl _⟩, by repeat (first | exact Drawn0.refl _ | apply Drawn0.step)⟩
  case round =>
    clear H'
    try clear p2
    obtain ⟨x1_1, x5_1, rfl, rfl, HA, HK1, ⟨m1, rfl⟩⟩ := hrel
    cases gk with
    | zero => exact absurd HA.out (by simp [laws_heldRuleS.l0])
    | succ k1 =>
      have H := HA.out
      clear HA
      simp only [laws_heldRuleS.l0] at H
      by_cases c3 : x5_1 < (l0.length : Int)
      · rw [if_pos c3] at H
        have c3b0 : decide (x5_1 < (l0.length : Int)) = true := at_ c3
        clear c3
        by_cases c4 : 0 ≤ x5_1
        · rw [if_pos c4] at H
          have c4b0 : decide (0 ≤ x5_1) = true := at_ c4
          clear c4
          by_cases c5 : ((rd_T82 l0 x5_1).f0) = x1_1
          · rw [if_pos c5] at H
            have c5b0 : (((rd_T82 l0 x5_1).f0) == x1_1) = true := beq_iff_eq.mpr c5
            have c5b1 : (((rd_T82 l0 x5_1).f0) != x1_1) = false := bne_eq_false_iff_eq.mpr c5
            clear c5
            by_cases c6 : ((rd_T82 l0 x5_1).f1) = (wrap64 (x1_1 + 1))
            · rw [if_pos c6] at H
              have c6b0 : (((rd_T82 l0 x5_1).f1) == (wrap64 (x1_1 + 1))) = true := beq_iff_eq.mpr c6
              have c6b1 : (((rd_T82 l0 x5_1).f1) != (wrap64 (x1_1 + 1))) = false := bne_eq_false_iff_eq.mpr c6
              clear c6
              have H' := ab_ H
              clear H
              have p264 : 0 ≤ (x5_1 : Int) := of_decide_eq_true (by first | (with_reducible assumption) | assumption)
              have q264 : x5_1 < (l0.length : Int) := of_decide_eq_true (by first | (with_reducible assumption) | assumption)
              obtain ⟨ad264, e264, hx264_0, hx264_1⟩ := at_T82 HR0.out x5_1 p264 q264
              cases e264
              replace p264 := eq_true p264
              replace q264 := eq_true q264
              have p265 : 0 ≤ (x5_1 : Int) := of_decide_eq_true (by first | (with_reducible assumption) | assumption)
              have q265 : x5_1 < (l0.length : Int) := of_decide_eq_true (by first | (with_reducible assumption) | assumption)
              obtain ⟨ad265, e265, hx265_0, hx265_1⟩ := at_T82 HR0.out x5_1 p265 q265
              obtain rfl : ad264 = ad265 := (by injection e265)
              replace p265 := eq_true p265
              replace q265 := eq_true q265
              go_wp2
              go_roundg k1
              case measure => have := HK1.out; omega
              case rel => exact ⟨(wrap64 ((wrap64 (x1_1 + 1)) + 1)), (wrap64 (x5_1 + 1)), (by first | rfl | (simp; done) | (simp [*]; done)), (by first | rfl | (simp; done) | (simp [*]; done)), H', ⟨by have := HK1.out; omega⟩, by repeat (first | exact Drawn0.refl _ | apply Drawn0.step)⟩
            · rw [if_neg c6] at H
              have c6b0 : (((rd_T82 l0 x5_1).f1) == (wrap64 (x1_1 + 1))) = false := beq_eq_false_iff_ne.mpr c6
              have c6b1 : (((rd_T82 l0 x5_1).f1) != (wrap64 (x1_1 + 1))) = true := bne_iff_ne.mpr c6
              obtain rfl := Option.some.inj H
              have p264 : 0 ≤ (x5_1 : Int) := of_decide_eq_true (by first | (with_reducible assumption) | assumption)
              have q264 : x5_1 < (l0.length : Int) := of_decide_eq_true (by first | (with_reducible assumption) | assumption)
              obtain ⟨ad264, e264, hx264_0, hx264_1⟩ := at_T82 HR0.out x5_1 p264 q264
              cases e264
              replace p264 := eq_true p264
              replace q264 := eq_true q264
              have p265 : 0 ≤ (x5_1 : Int) := of_decide_eq_true (by first | (with_reducible assumption) | assumption)
              have q265 : x5_1 < (l0.length : Int) := of_decide_eq_true (by first | (with_reducible assumption) | assumption)
              obtain ⟨ad265, e265, hx265_0, hx265_1⟩ := at_T82 HR0.out x5_1 p265 q265
              obtain rfl : ad264 = ad265 := (by injection e265)
              replace p265 := eq_true p265
              replace q265 := eq_true q265
              go_wp2
              go_ret
              exact ⟨by first | rfl | (simp; done) | (simp [*]; done), by repeat (first | exact Drawn0.refl _ | apply Drawn0.step)⟩
          · rw [if_neg c5] at H
            have c5b0 : (((rd_T82 l0 x5_1).f0) == x1_1) = false := beq_eq_false_iff_ne.mpr c5
            have c5b1 : (((rd_T82 l0 x5_1).f0) != x1_1) = true := bne_iff_ne.mpr c5
            obtain rfl := Option.some.inj H
            have p264 : 0 ≤ (x5_1 : Int) := of_decide_eq_true (by first | (with_reducible assumption) | assumption)
            have q264 : x5_1 < (l0.length : Int) := of_decide_eq_true (by first | (with_reducible assumption) | assumption)
            obtain ⟨ad264, e264, hx264_0, hx264_1⟩ := at_T82 HR0.out x5_1 p264 q264
            cases e264
            replace p264 := eq_true p264
            replace q264 := eq_true q264
            go_wp2
            go_ret
            exact ⟨by first | rfl | (simp; done) | (simp [*]; done), by repeat (first | exact Drawn0.refl _ | apply Drawn0.step)⟩
        · rw [if_neg c4] at H
          exact absurd H (by simp)
      · rw [if_neg c3] at H
        have c3b0 : decide (x5_1 < (l0.length : Int)) = false := decide_eq_false c3
        clear c3
        obtain rfl := Option.some.inj H
        go_wp2
        go_ret
        exact ⟨by first | rfl | (simp; done) | (simp [*]; done), by repeat (first | exact Drawn0.refl _ | apply Drawn0.step)⟩
end Go.Proofs.Ytjnaokdncemggaa.PAll

end

section
namespace Go.Proofs.Ytjnaokdncemggaa.PAll
open Go.RowKit Go.Proofs.YtjnaokdncemggaaW.PrintWords Go.Proofs.YtjnaokdncemggaaW.PrintLast Go.Proofs.YtjnaokdncemggaaW.PrintMore
attribute [local go_sem] max2_int min2_int max_two min_two max_three min_three max_four min_four   -- for this text's walks alone
set_option linter.unusedVariables false
set_option linter.unusedSimpArgs false
def laws_eqIntS.l0 : Nat → List Int → List Int → Int → Option (Bool)
  | 0, _, _, _ => none
  | k + 1, x0, x1, x5 => if x5 < (x0.length : Int) then (if 0 ≤ x5 then (if x5 < (x1.length : Int) then (if (rd x0 x5) = (rd x1 x5) then (laws_eqIntS.l0 k x0 x1 (wrap64 (x5 + 1))) else (some false)) else (none)) else (none)) else (some true)
def laws_eqIntS.f (k : Nat) (l0 : List Int) (l1 : List Int) : Option (Bool) := if (l0.length : Int) = (l1.length : Int) then (laws_eqIntS.l0 k l0 l1 0) else (some false)
theorem laws_eqIntS.mono_l : ∀ k, (∀ y0 y1 y2, LeO (laws_eqIntS.l0 k y0 y1 y2) (laws_eqIntS.l0 (k + 1) y0 y1 y2))
  | 0 => fun _ _ _ r h => by simp [laws_eqIntS.l0] at h
  | k + 1 => by
    have ih0 := laws_eqIntS.mono_l k
    · intro y0 y1 y2
      unfold laws_eqIntS.l0
      repeat' first
      | (with_reducible exact ih0 _ _ _)
      | (with_reducible exact LeO.refl _)
      | (with_reducible exact LeO.none _)
      | (with_reducible refine LeO.ite ?_ ?_)
      | (with_reducible refine LeO.bind ?_ (fun _ => ?_))
      | exact ih0 _ _ _
      | exact LeO.none _
      | refine LeO.ite ?_ ?_
      | refine LeO.bind ?_ (fun _ => ?_)
theorem laws_eqIntS.mono : ∀ a0 a1 k, LeO (laws_eqIntS.f k a0 a1) (laws_eqIntS.f (k + 1) a0 a1) := by
  intro a0 a1 k
  have ih0 := laws_eqIntS.mono_l k
  unfold laws_eqIntS.f
  repeat' first
      | (with_reducible exact ih0 _ _ _)
      | (with_reducible exact LeO.refl _)
      | (with_reducible exact LeO.none _)
      | (with_reducible refine LeO.ite ?_ ?_)
      | (with_reducible refine LeO.bind ?_ (fun _ => ?_))
      | exact ih0 _ _ _
      | exact LeO.none _
      | refine LeO.ite ?_ ?_
      | refine LeO.bind ?_ (fun _ => ?_)
set_option maxHeartbeats 8000000 in
set_option maxRecDepth 100000 in
theorem laws_eqIntS.calls (k : Nat) (A0 : Option Addr) (c0 : Nat) (l0 : List Int) (A1 : Option Addr) (c1 : Nat) (l1 : List Int) (r : Bool) (w : World) (hr0 : Kd.C (Kd.int .i64) w A0 l0.length l0) (hc0 : l0.length ≤ c0) (hr1 : Kd.C (Kd.int .i64) w A1 l1.length l1) (hc1 : l1.length ≤ c1) (h : laws_eqIntS.f k l0 l1 = some r) :
    Calls Try.prog 33 #[.slice A0 l0.length c0, .slice A1 l1.length c1] w fun e w' => e = .returned (.bool r) ∧ Drawn0 w w' := by
  have HR0 := ab_ hr0
  have HC0 := ab_ hc0
  clear hr0 hc0
  have HR1 := ab_ hr1
  have HC1 := ab_ hc1
  clear hr1 hc1
  have H : (if (l0.length : Int) = (l1.length : Int) then (laws_eqIntS.l0 k l0 l1 0) else (some false)) = some r := h
  clear h
  by_cases c3 : (l0.length : Int) = (l1.length : Int)
  · rw [if_pos c3] at H
    have c3b0 : ((l0.length : Int) == (l1.length : Int)) = true := beq_iff_eq.mpr c3
    have c3b1 : ((l0.length : Int) != (l1.length : Int)) = false := bne_eq_false_iff_eq.mpr c3
    have c3b2 : (l0.length == l1.length) = true := by first | simpa using c3 | (simp at c3 ⊢; omega)
    clear c3
    have H' := ab_ H
    clear H
    go_enter Try.func33, Try.ntmps33
    go_wp2
    repeat (go_quiet (fail); try go_wp2)
    go_loopg [5] k (fun kq v5 w' => ∃ (x5_1 : Int), v5 = .int .i64 x5_1 ∧ Aside0 (laws_eqIntS.l0 kq l0 l1 x5_1 = some r) ∧ Aside0 (kq ≤ k) ∧ Drawn0 w w')
    case atStart => exact ⟨(0), (by first | rfl | (simp; done) | (simp [*]; done)), H', ⟨Nat.le_refl _⟩, by repeat (first | exact Drawn0.refl _ | apply Drawn0.step)⟩
    case round =>
      clear H'
      try clear c1
      try clear p2
      try clear c3
      try clear c3b0
      try clear c3b1
      try clear c3b2
      obtain ⟨x5_1, rfl, HA, HK1, ⟨m1, rfl⟩⟩ := hrel
      cases gk with
      | zero => exact absurd HA.out (by simp [laws_eqIntS.l0])
      | succ k1 =>
        have H := HA.out
        clear HA
        simp only [laws_eqIntS.l0] at H
        by_cases c4 : x5_1 < (l0.length : Int)
        · rw [if_pos c4] at H
          have c4b0 : decide (x5_1 < (l0.length : Int)) = true := at_ c4
          clear c4
          by_cases c5 : 0 ≤ x5_1
          · rw [if_pos c5] at H
            have c5b0 : decide (0 ≤ x5_1) = true := at_ c5
            clear c5
            by_cases c6 : x5_1 < (l1.length : Int)
            · rw [if_pos c6] at H
              have c6b0 : decide (x5_1 < (l1.length : Int)) = true := at_ c6
              clear c6
              by_cases c7 : (rd l0 x5_1) = (rd l1 x5_1)
              · rw [if_pos c7] at H
                have c7b0 : ((rd l0 x5_1) == (rd l1 x5_1)) = true := beq_iff_eq.mpr c7
                have c7b1 : ((rd l0 x5_1) != (rd l1 x5_1)) = false := bne_eq_false_iff_eq.mpr c7
                clear c7
                have H' := ab_ H
                clear H
                have p414 : 0 ≤ (x5_1 : Int) := of_decide_eq_true (by first | (with_reducible assumption) | assumption)
                have q414 : x5_1 < (l0.length : Int) := of_decide_eq_true (by first | (with_reducible assumption) | assumption)
                obtain ⟨ad414, e414, hx414_0⟩ := Kd.at_int HR0.out x5_1 p414 q414
                cases e414
                replace p414 := eq_true p414
                replace q414 := eq_true q414
                have p415 : 0 ≤ (x5_1 : Int) := of_decide_eq_true (by first | (with_reducible assumption) | assumption)
                have q415 : x5_1 < (l1.length : Int) := of_decide_eq_true (by first | (with_reducible assumption) | assumption)
                obtain ⟨ad415, e415, hx415_0⟩ := Kd.at_int HR1.out x5_1 p415 q415
                cases e415
                replace p415 := eq_true p415
                replace q415 := eq_true q415
                go_wp2
                repeat (go_quiet (fail); try go_wp2)
                go_roundg k1
                case measure => have := HK1.out; omega
                case rel => exact ⟨(wrap64 (x5_1 + 1)), (by first | rfl | (simp; done) | (simp [*]; done)), H', ⟨by have := HK1.out; omega⟩, by repeat (first | exact Drawn0.refl _ | apply Drawn0.step)⟩
              · rw [if_neg c7] at H
                have c7b0 : ((rd l0 x5_1) == (rd l1 x5_1)) = false := beq_eq_false_iff_ne.mpr c7
                have c7b1 : ((rd l0 x5_1) != (rd l1 x5_1)) = true := bne_iff_ne.mpr c7
                obtain rfl := Option.some.inj H
                have p414 : 0 ≤ (x5_1 : Int) := of_decide_eq_true (by first | (with_reducible assumption) | assumption)
                have q414 : x5_1 < (l0.length : Int) := of_decide_eq_true (by first | (with_reducible assumption) | assumption)
                obtain ⟨ad414, e414, hx414_0⟩ := Kd.at_int HR0.out x5_1 p414 q414
                cases e414
                replace p414 := eq_true p414
                replace q414 := eq_true q414
                have p415 : 0 ≤ (x5_1 : Int) := of_decide_eq_true (by first | (with_reducible assumption) | assumption)
                have q415 : x5_1 < (l1.length : Int) := of_decide_eq_true (by first | (with_reducible assumption) | assumption)
                obtain ⟨ad415, e415, hx415_0⟩ := Kd.at_int HR1.out x5_1 p415 q415
                cases e415
                replace p415 := eq_true p415
                replace q415 := eq_true q415
                go_wp2
                repeat (go_quiet (fail); try go_wp2)
                go_ret
                exact ⟨by first | rfl | (simp; done) | (simp [*]; done), by repeat (first | exact Drawn0.refl _ | apply Drawn0.step)⟩
            · rw [if_neg c6] at H
              exact absurd H (by simp)
          · rw [if_neg c5] at H
            exact absurd H (by simp)
        · rw [if_neg c4] at H
          have c4b0 : decide (x5_1 < (l0.length : Int)) = false := decide_eq_false c4
          clear c4
          obtain rfl := Option.some.inj H
          go_wp2
          repeat (go_quiet (fail); try go_wp2)
          go_ret
          exact ⟨by first | rfl | (simp; done) | (simp [*]; done), by repeat (first | exact Drawn0.refl _ | apply Drawn0.step)⟩
  · rw [if_neg c3] at H
    have c3b0 : ((l0.length : Int) == (l1.length : Int)) = false := beq_eq_false_iff_ne.mpr c3
    have c3b1 : ((l0.length : Int) != (l1.length : Int)) = true := bne_iff_ne.mpr c3
    have c3b2 : (l0.length == l1.length) = false := by first | simpa using c3 | (simp at c3 ⊢; omega)
    obtain rfl := Option.some.inj H
    go_enter Try.func33, Try.ntmps33
    go_wp2
    repeat (go_quiet (fail); try go_wp2)
    go_ret
    exact ⟨by first | rfl | (simp; done) | (simp [*]; done), by repeat (first | exact Drawn0.refl _ | apply Drawn0.step)⟩
def laws_markCompS.l0 : Nat → List (S83) → Int → Int → Option (Int × (List (S83)))
  | 0, _, _, _ => none
  | k + 1, x0, x1, x5 => if x5 < (x0.length : Int) then (if 0 ≤ x5 then ((some (x0.set (x5 : Int).toNat (⟨x1, (rd_T83 x0 x5).f1⟩ : S83) : List (S83))).bind fun y416 => (laws_markCompS.l0 k (y416.set (x5 : Int).toNat (⟨(rd_T83 y416 x5).f0, wrap64 (x1 + 1)⟩ : S83)) (wrap64 ((wrap64 (x1 + 1)) + 1)) (wrap64 (x5 + 1)))) else (none)) else (some (x1, x0))
def laws_markCompS.f (k : Nat) (l0 : List (S83)) (a1 : Int) : Option (Int × (List (S83))) := laws_markCompS.l0 k l0 a1 0
theorem laws_markCompS.mono_l : ∀ k, (∀ y0 y1 y2, LeO (laws_markCompS.l0 k y0 y1 y2) (laws_markCompS.l0 (k + 1) y0 y1 y2))
  | 0 => fun _ _ _ r h => by simp [laws_markCompS.l0] at h
  | k + 1 => by
    have ih0 := laws_markCompS.mono_l k
    · intro y0 y1 y2
      unfold laws_markCompS.l0
      repeat' first
      | (with_reducible exact ih0 _ _ _)
      | (with_reducible exact LeO.refl _)
      | (with_reducible exact LeO.none _)
      | (with_reducible refine LeO.ite ?_ ?_)
      | (with_reducible refine LeO.bind ?_ (fun _ => ?_))
      | exact ih0 _ _ _
      | exact LeO.none _
      | refine LeO.ite ?_ ?_
      | refine LeO.bind ?_ (fun _ => ?_)
theorem laws_markCompS.mono : ∀ a0 a1 k, LeO (laws_markCompS.f k a0 a1) (laws_markCompS.f (k + 1) a0 a1) := by
  intro a0 a1 k
  have ih0 := laws_markCompS.mono_l k
  unfold laws_markCompS.f
  repeat' first
      | (with_reducible exact ih0 _ _ _)
      | (with_reducible exact LeO.refl _)
      | (with_reducible exact LeO.none _)
      | (with_reducible refine LeO.ite ?_ ?_)
      | (with_reducible refine LeO.bind ?_ (fun _ => ?_))
      | exact ih0 _ _ _
      | exact LeO.none _
      | refine LeO.ite ?_ ?_
      | refine LeO.bind ?_ (fun _ => ?_)
set_option maxHeartbeats 8000000 in
set_option maxRecDepth 100000 in
theorem laws_markCompS.calls (k : Nat) (P0_ : Nat → Prop) (u9000_ : Value) (l0 : List (S83)) (a1 : Int) (r1 : Int) (r2 : List (S83)) (w0 w : World) (hB : Below w0.heap.size w0 w) (ho0 : Kd.R k83 83 w w0.heap.size P0_ u9000_ l0) (h : laws_markCompS.f k l0 a1 = some (r1, r2)) :
    Calls Try.prog 34 #[u9000_, .int .i64 a1] w fun e w' => e = .returned (.int .i64 r1) ∧ Kd.R k83 83 w' w0.heap.size (fun k_ => (P0_ k_ ∨ w.heap.size ≤ k_)) u9000_ r2 ∧ Below w0.heap.size w0 w' ∧ Kept w w' (fun k_ => P0_ k_) := by
  have HO0 := ab_ (show Kd.R k83 83 w w0.heap.size (fun k_ => (P0_ k_ ∨ w.heap.size ≤ k_)) u9000_ l0 from Kd.R_mono ho0 (fun k_ hk => (.inl hk)))
  have HK := ab_ (Kept.refl w (fun k_ => P0_ k_))
  have HW0 := ab_ hB.size
  have HB := ab_ hB
  clear hB
  have H : (laws_markCompS.l0 k l0 a1 0) = some (r1, r2) := h
  clear h
  have H' := ab_ H
  clear H
  go_enter Try.func34, Try.ntmps34
  go_wp2
  go_loopg [1, 5] k (fun kq v1 v5 w' => ∃ (x0_1 : List (S83)) (x1_1 : Int) (x5_1 : Int), v1 = .int .i64 x1_1 ∧ v5 = .int .i64 x5_1 ∧ Aside0 (laws_markCompS.l0 kq x0_1 x1_1 x5_1 = some (r1, r2)) ∧ Aside0 (kq ≤ k) ∧ Aside0 (Kd.R k83 83 w' w0.heap.size (fun k_ => (P0_ k_ ∨ w.heap.size ≤ k_)) u9000_ x0_1) ∧ Aside0 (Kept w w' (fun k_ => P0_ k_)) ∧ Aside0 (Below w0.heap.size w0 w'))
  case atStart => exact ⟨(l0), (a1), (0), (by first | rfl | (simp; done) | (simp [*]; done)), (by first | rfl | (simp; done) | (simp [*]; done)), H', ⟨Nat.le_refl _⟩, ⟨by (with_reducible repeat (first | apply ao_ | apply ap_ | apply aq_)); exact HO0.out⟩, ⟨by repeat (first | (with_reducible first | exact HK.out | apply Kept.alloc | apply Kept.drewN | apply Kept.drew) | exact HK.out)⟩, ⟨by repeat (first | (with_reducible first | exact HB.out | apply ai_ | apply ag_ | apply ah_) | exact HB.out)⟩⟩
  case round =>
    clear H'
    try clear p2
    obtain ⟨x0_1, x1_1, x5_1, rfl, rfl, HA, HK1, HO_0, HK, HB⟩ := hrel
    cases gk with
    | zero => exact absurd HA.out (by simp [laws_markCompS.l0])
    | succ k1 =>
      have H := HA.out
      clear HA
      simp only [laws_markCompS.l0] at H
      by_cases c3 : x5_1 < (x0_1.length : Int)
      · rw [if_pos c3] at H
        have c3b0 : decide (x5_1 < (x0_1.length : Int)) = true := at_ c3
        clear c3
        by_cases c4 : 0 ≤ x5_1
        · rw [if_pos c4] at H
          have c4b0 : decide (0 ≤ x5_1) = true := at_ c4
          clear c4
          obtain ⟨y416, hy416⟩ : ∃ y_ : List (S83), y_ = (x0_1.set (x5_1 : Int).toNat (⟨x1_1, (rd_T83 x0_1 x5_1).f1⟩ : S83)) := ⟨_, rfl⟩
          replace H : (laws_markCompS.l0 k1 (y416.set (x5_1 : Int).toNat (⟨(rd_T83 y416 x5_1).f0, wrap64 (x1_1 + 1)⟩ : S83)) (wrap64 ((wrap64 (x1_1 + 1)) + 1)) (wrap64 (x5_1 + 1))) = some (r1, r2) := by first | (rw [hy416]; with_reducible exact H) | (have H2_ := (Option.bind_some _ _).symm.trans H; rw [hy416]; with_reducible exact H2_) | (have H2_ := (Option.bind_some _ _).symm.trans H; with_reducible exact H2_) | with_reducible exact H | (rw [hy416]; exact H) | exact H
          have Ny416 := ab_ hy416
          clear hy416
          obtain ⟨y417, hy417⟩ : ∃ y_ : List (S83), y_ = (y416.set (x5_1 : Int).toNat (⟨(rd_T83 y416 x5_1).f0, wrap64 (x1_1 + 1)⟩ : S83)) := ⟨_, rfl⟩
          replace H : (laws_markCompS.l0 k1 y417 (wrap64 ((wrap64 (x1_1 + 1)) + 1)) (wrap64 (x5_1 + 1))) = some (r1, r2) := by first | (rw [hy417]; with_reducible exact H) | (have H2_ := (Option.bind_some _ _).symm.trans H; rw [hy417]; with_reducible exact H2_) | (have H2_ := (Option.bind_some _ _).symm.trans H; with_reducible exact H2_) | with_reducible exact H | (rw [hy417]; exact H) | exact H
          have Ny417 := ab_ hy417
          clear hy417
          have H' := ab_ H
          clear H
          obtain ⟨Ao7, co7, eo7⟩ := Kd.R_slice HO_0.out
          subst eo7
          have p5 : 0 ≤ (x5_1 : Int) := of_decide_eq_true (by first | (with_reducible assumption) | assumption)
          have q5 : (x5_1 : Int) < ((x0_1.length : Int) : Int) := of_decide_eq_true (by first | (with_reducible assumption) | assumption)
          obtain ⟨go5, co5, eo5, gb5, gl5, cl5, HG5⟩ := Kd.R_form HO_0.out (by omega)
          (first | cases eo5 | (injection eo5 with ea_ en_ ec_; (first | subst ea_ | (injection ea_ with ea_; subst ea_)); subst ec_; clear en_))
          have GB5 := ab_ gb5
          have GG5 := ab_ HG5
          clear gb5 gl5 HG5
          have HMgo5 := ab_ (show (P0_ go5 ∨ w.heap.size ≤ go5) from (HO_0.out.1 _ rfl))
          obtain ⟨ce5, hcl5, hM5, hcc5, hfr5⟩ := Kd.R_elem HO_0.out z83 (x5_1 : Int) p5 q5
          obtain rfl := k83_openM hM5
          have hx5_0 : wr.cell? ⟨go5, (x5_1 : Int).toNat * 2, none⟩ = some (.int .i64 ((rd_T83 x0_1 x5_1).f0)) := hcc5 0 _ rfl
          have hx5_1 : wr.cell? ⟨go5, (x5_1 : Int).toNat * 2 + 1, none⟩ = some (.int .i64 ((rd_T83 x0_1 x5_1).f1)) := hcc5 1 _ rfl
          have hf5_0 : wr.frozen? ⟨go5, (x5_1 : Int).toNat * 2, none⟩ = false := hfr5 0
          have hf5_1 : wr.frozen? ⟨go5, (x5_1 : Int).toNat * 2 + 1, none⟩ = false := hfr5 1
          (try clear hcl5); (try clear hcc5); (try clear hfr5); (try clear hM5)
          replace p5 := eq_true p5
          replace q5 := eq_true q5
          have HX8 := ab_ (show Kd.R k83 83 wr w0.heap.size (fun k_ => (P0_ k_ ∨ w.heap.size ≤ k_)) (.slice (some ⟨go5, 0, none⟩) x0_1.length co7) x0_1 from (by (with_reducible repeat (first | apply ao_ | apply ap_ | apply aq_)); exact HO_0.out))
          obtain ⟨ce8, hcl8, hM8, hcc8, hfr8⟩ := Kd.R_elem HX8.out z83 (x5_1 : Int) (of_decide_eq_true (by first | (with_reducible assumption) | assumption)) (by have h_ : (x5_1 : Int) < ((x0_1.length : Int) : Int) := of_decide_eq_true (by first | (with_reducible assumption) | assumption); first | exact h_ | (have e_ := (Kd.R_reads' HO_0.out).1; omega) | simpa using h_)
          obtain rfl := k83_openM hM8
          have HP8 := Kd.R_seg HX8.out (x5_1 : Int) (of_decide_eq_true (by first | (with_reducible assumption) | assumption)) (by have h_ : (x5_1 : Int) < ((x0_1.length : Int) : Int) := of_decide_eq_true (by first | (with_reducible assumption) | assumption); first | exact h_ | (have e_ := (Kd.R_reads' HO_0.out).1; omega) | simpa using h_) (seg := [.int .i64 x1_1]) (j := 0) hcl8 hcc8 (show 1 ≤ 2 from by decide) (x' := (⟨x1_1, (rd_T83 x0_1 x5_1).f1⟩ : S83)) (k83_mkM _ _ _ (⟨x1_1, (rd_T83 x0_1 x5_1).f1⟩ : S83) ) (fun _ hk => hk)
          have hx8_0 := hcc8 0 _ rfl
          (try simp only [show (k83).sz = 2 from rfl, Nat.mul_one, Nat.add_zero] at hx8_0)
          have hf8_0 := hfr8 0
          (try simp only [show (k83).sz = 2 from rfl, Nat.mul_one, Nat.add_zero] at hf8_0)
          (try clear hcl8); (try clear hcc8); (try clear hfr8); (try clear hM8)
          go_wp2_with (first | ((with_reducible refine gate_store (t := 3) (p := 16) rfl ?_); refine store_event (t := 3) (p := 16) (v := ?vo_w9) (w1 := (wr.setCell ⟨go5, (x5_1 : Int).toNat * 2, none⟩ (.int .i64 x1_1))) ?hg ?ho ?hn ?hr ?_; (case ho => rfl); (case hg => rfl); (case hn => rfl); (case hr => first | (go_simp; done) | (go_simp; rfl)); intro w9 hw; have hg : wr.grownBy w9 (some go5) := (by rw [hw]; exact HP8.2); have hp_ : Kd.R k83 83 w9 w0.heap.size (fun k_ => (P0_ k_ ∨ w.heap.size ≤ k_)) (.slice (some ⟨go5, 0, none⟩) x0_1.length co7) y416 := (by rw [hw, Ny416.out]; exact HP8.1); clear HP8; have n0_ := ab_ (hp_); have n1_ := ab_ ((by rw [hw]; exact af_ (HB.out) GB5.out : Below w0.heap.size w0 w9)); have n2_ := ab_ (Kept.of_grown (S := (fun k_ => P0_ k_)) hg (by repeat (first | (with_reducible first | exact HK.out | apply Kept.alloc | apply Kept.drewN | apply Kept.drew) | exact HK.out)) (fun k_ e_ => (HO_0.out.1 k_ e_))); clear HO_0; clear HB; clear HK; have HO_0 := n0_; have HB := n1_; have HK := n2_; clear n0_ n1_ n2_; clear hg hw hp_; have p6 : 0 ≤ (x5_1 : Int) := of_decide_eq_true (by first | (with_reducible assumption) | assumption); have q6 : (x5_1 : Int) < ((x0_1.length : Int) : Int) := of_decide_eq_true (by first | (with_reducible assumption) | assumption); obtain ⟨ce6, hcl6, hM6, hcc6, hfr6⟩ := Kd.R_elem HO_0.out z83 (x5_1 : Int) p6 q6; obtain rfl := k83_openM hM6; have hx6_0 : w9.cell? ⟨go5, (x5_1 : Int).toNat * 2, none⟩ = some (.int .i64 ((rd_T83 y416 x5_1).f0)) := hcc6 0 _ rfl; have hx6_1 : w9.cell? ⟨go5, (x5_1 : Int).toNat * 2 + 1, none⟩ = some (.int .i64 ((rd_T83 y416 x5_1).f1)) := hcc6 1 _ rfl; have hf6_0 : w9.frozen? ⟨go5, (x5_1 : Int).toNat * 2, none⟩ = false := hfr6 0; have hf6_1 : w9.frozen? ⟨go5, (x5_1 : Int).toNat * 2 + 1, none⟩ = false := hfr6 1; (try clear hcl6); (try clear hcc6); (try clear hfr6); (try clear hM6); replace p6 := eq_true p6; replace q6 := eq_true q6; have HX10 := ab_ (show Kd.R k83 83 w9 w0.heap.size (fun k_ => (P0_ k_ ∨ w.heap.size ≤ k_)) (.slice (some ⟨go5, 0, none⟩) x0_1.length co7) y416 from (by (with_reducible repeat (first | apply ao_ | apply ap_ | apply aq_)); exact HO_0.out)); obtain ⟨ce10, hcl10, hM10, hcc10, hfr10⟩ := Kd.R_elem HX10.out z83 (x5_1 : Int) (of_decide_eq_true (by first | (with_reducible assumption) | assumption)) (by have h_ : (x5_1 : Int) < ((x0_1.length : Int) : Int) := of_decide_eq_true (by first | (with_reducible assumption) | assumption); first | exact h_ | (have e_ := (Kd.R_reads' HO_0.out).1; omega) | simpa using h_); obtain rfl := k83_openM hM10; have HP10 := Kd.R_seg HX10.out (x5_1 : Int) (of_decide_eq_true (by first | (with_reducible assumption) | assumption)) (by have h_ : (x5_1 : Int) < ((x0_1.length : Int) : Int) := of_decide_eq_true (by first | (with_reducible assumption) | assumption); first | exact h_ | (have e_ := (Kd.R_reads' HO_0.out).1; omega) | simpa using h_) (seg := [.int .i64 (wrap64 (x1_1 + 1))]) (j := 1) hcl10 hcc10 (show 2 ≤ 2 from by decide) (x' := (⟨(rd_T83 y416 x5_1).f0, wrap64 (x1_1 + 1)⟩ : S83)) (k83_mkM _ _ _ (⟨(rd_T83 y416 x5_1).f0, wrap64 (x1_1 + 1)⟩ : S83) ) (fun _ hk => hk); have hx10_1 := hcc10 1 _ rfl; (try simp only [show (k83).sz = 2 from rfl, Nat.mul_one, Nat.add_zero] at hx10_1); have hf10_1 := hfr10 1; (try simp only [show (k83).sz = 2 from rfl, Nat.mul_one, Nat.add_zero] at hf10_1); (try clear hcl10); (try clear hcc10); (try clear hfr10); (try clear hM10)) | ((with_reducible refine gate_store (t := 3) (p := 23) rfl ?_); refine store_event (t := 3) (p := 23) (v := ?vo_w11) (w1 := (w9.setCell ⟨go5, (x5_1 : Int).toNat * 2 + 1, none⟩ (.int .i64 (wrap64 (x1_1 + 1))))) ?hg ?ho ?hn ?hr ?_; (case ho => rfl); (case hg => rfl); (case hn => rfl); (case hr => first | (go_simp; done) | (go_simp; rfl)); intro w11 hw; have hg : w9.grownBy w11 (some go5) := (by rw [hw]; exact HP10.2); have hp_ : Kd.R k83 83 w11 w0.heap.size (fun k_ => (P0_ k_ ∨ w.heap.size ≤ k_)) (.slice (some ⟨go5, 0, none⟩) x0_1.length co7) y417 := (by rw [hw, Ny417.out]; exact HP10.1); clear HP10; have n0_ := ab_ (hp_); have n1_ := ab_ ((by rw [hw]; exact af_ (HB.out) GB5.out : Below w0.heap.size w0 w11)); have n2_ := ab_ (Kept.of_grown (S := (fun k_ => P0_ k_)) hg (by repeat (first | (with_reducible first | exact HK.out | apply Kept.alloc | apply Kept.drewN | apply Kept.drew) | exact HK.out)) (fun k_ e_ => (HO_0.out.1 k_ e_))); clear HO_0; clear HB; clear HK; have HO_0 := n0_; have HB := n1_; have HK := n2_; clear n0_ n1_ n2_; clear hg hw hp_))
          go_roundg k1
          case measure => have := HK1.out; omega
          case rel => exact ⟨(y417), (wrap64 ((wrap64 (x1_1 + 1)) + 1)), (wrap64 (x5_1 + 1)), (by first | rfl | (simp; done) | (simp [*]; done)), (by first | rfl | (simp; done) | (simp [*]; done)), H', ⟨by have := HK1.out; omega⟩, ⟨by (with_reducible repeat (first | apply ao_ | apply ap_ | apply aq_)); exact HO_0.out⟩, ⟨by repeat (first | (with_reducible first | exact HK.out | apply Kept.alloc | apply Kept.drewN | apply Kept.drew) | exact HK.out)⟩, ⟨by repeat (first | (with_reducible first | exact HB.out | apply ai_ | apply ag_ | apply ah_) | exact HB.out)⟩⟩
        · rw [if_neg c4] at H
          exact absurd H (by simp)
      · rw [if_neg c3] at H
        have c3b0 : decide (x5_1 < (x0_1.length : Int)) = false := decide_eq_false c3
        clear c3
        simp only [Option.some.injEq, Prod.mk.injEq] at H
        obtain ⟨rfl, rfl⟩ := H
        obtain ⟨Ao12, co12, eo12⟩ := Kd.R_slice HO_0.out
        subst eo12
        go_wp2
        go_ret
        exact ⟨by first | rfl | (simp [errW_none, errW_some] <;> rfl) | (simp [*, errW_none, errW_some] <;> rfl), by (with_reducible repeat (first | apply ao_ | apply ap_ | apply aq_)); exact HO_0.out, by repeat (first | (with_reducible first | exact HB.out | apply ai_ | apply ag_ | apply ah_) | exact HB.out), by repeat (first | (with_reducible first | exact HK.out | apply Kept.alloc | apply Kept.drewN | apply Kept.drew) | exact HK.out)⟩
end Go.Proofs.Ytjnaokdncemggaa.PAll

end
