-- Made by pack.py of the texts that the law reaches.
import Derived.Test.YtjnaokdncemggaaV4
section
namespace Go.Proofs.Ytjnaokdncemggaa.PAll
open Go.RowKit Go.Proofs.YtjnaokdncemggaaW.PrintWords Go.Proofs.YtjnaokdncemggaaW.PrintLast Go.Proofs.YtjnaokdncemggaaW.PrintMore
attribute [local go_sem] max2_int min2_int max_two min_two max_three min_three max_four min_four   -- for this text's walks alone
set_option linter.unusedVariables false
set_option linter.unusedSimpArgs false
mutual
def spec_l9Handle.j0 : Nat → Bool → Bool → Int → List (S93) → Int → Int → Bool → Int → List (S93) → Bool → Int → List (S93) → Option (Bool × Int × (List (S93)) × Bool)
  | 0, _, _, _, _, _, _, _, _, _, _, _, _ => none
  | k + 1, x78, x911000, x911001, x911002, x914000, x914001, x936000, x936001, x936002, x944000, x944001, x944002 => if x78 = true then (some (false, 0, ([] : List (S93)), false)) else (if x914000 = 3 then ((spec_l9Size.f k x936000 x936001 x936002).bind fun t944 => ((spec_l9Leaves.f k x936000 x936001 x936002).bind fun t945 => ((spec_l9Size.f k x944000 x944001 x944002).bind fun t946 => (if (wrap64 (t944 + (wrap64 (t945 * (wrap64 (t946 - 1)))))) > 60 then (some (false, 0, ([] : List (S93)), false)) else ((spec_l9With.f k x936000 x936001 x936002 x944000 x944001 x944002).bind fun bt947 => (some (bt947.1, bt947.2.1, bt947.2.2, true))))))) else ((some (([(⟨x936000, x936001, x936002⟩ : S93), (⟨x944000, x944001, x944002⟩ : S93)] : List (S93)) : List (S93))).bind fun y952 => ((spec_l9Size.f k true x911001 y952).bind fun t956 => (some (true, x911001, y952, decide (t956 ≤ 60))))))
def spec_l9Handle.f : Nat → Int → List (S82) → Bool → Int → List (S93) → Option (Bool × Int × (List (S93)) × Bool)
  | 0, _, _, _, _, _ => none
  | k + 1, a0_0, l0_1, a1_0, a1_1, l1_2 => if a1_0 = true then (if 0 ≤ a1_1 then (if a1_1 < (l0_1.length : Int) then (if ((rd_T82 l0_1 a1_1).f0) = 4 then (some (false, (rd_T82 l0_1 a1_1).f1, ([] : List (S93)), true)) else (if ((rd_T82 l0_1 a1_1).f0) = 1 then (if 0 < (l1_2.length : Int) then ((spec_l9Handle.f k a0_0 l0_1 ((rd_T93 l1_2 0).f0) ((rd_T93 l1_2 0).f1) ((rd_T93 l1_2 0).f2)).bind fun bt915 => (some (bt915.1, bt915.2.1, bt915.2.2.1, bt915.2.2.2))) else (none)) else (if ((rd_T82 l0_1 a1_1).f0) = 2 then (if 1 < (l1_2.length : Int) then ((spec_l9Handle.f k a0_0 l0_1 ((rd_T93 l1_2 1).f0) ((rd_T93 l1_2 1).f1) ((rd_T93 l1_2 1).f2)).bind fun bt922 => (some (bt922.1, bt922.2.1, bt922.2.2.1, bt922.2.2.2))) else (none)) else (if 0 < (l1_2.length : Int) then ((spec_l9Handle.f k a0_0 l0_1 ((rd_T93 l1_2 0).f0) ((rd_T93 l1_2 0).f1) ((rd_T93 l1_2 0).f2)).bind fun bt929 => (if 1 < (l1_2.length : Int) then ((spec_l9Handle.f k a0_0 l0_1 ((rd_T93 l1_2 1).f0) ((rd_T93 l1_2 1).f1) ((rd_T93 l1_2 1).f2)).bind fun bt937 => (if bt929.2.2.2 = true then (spec_l9Handle.j0 k (!bt937.2.2.2) a1_0 a1_1 l1_2 ((rd_T82 l0_1 a1_1).f0) ((rd_T82 l0_1 a1_1).f1) bt929.1 bt929.2.1 bt929.2.2.1 bt937.1 bt937.2.1 bt937.2.2.1) else (spec_l9Handle.j0 k true a1_0 a1_1 l1_2 ((rd_T82 l0_1 a1_1).f0) ((rd_T82 l0_1 a1_1).f1) bt929.1 bt929.2.1 bt929.2.2.1 bt937.1 bt937.2.1 bt937.2.2.1))) else (none))) else (none))))) else (none)) else (none)) else (some (false, Int.tmod (wrap64 (a1_1 + a0_0)) 100, ([] : List (S93)), true))
end
theorem spec_l9Handle.mono_l : ∀ k, (∀ y0 y1 y2 y3 y4, LeO (spec_l9Handle.f k y0 y1 y2 y3 y4) (spec_l9Handle.f (k + 1) y0 y1 y2 y3 y4)) ∧ (∀ y0 y1 y2 y3 y4 y5 y6 y7 y8 y9 y10 y11, LeO (spec_l9Handle.j0 k y0 y1 y2 y3 y4 y5 y6 y7 y8 y9 y10 y11) (spec_l9Handle.j0 (k + 1) y0 y1 y2 y3 y4 y5 y6 y7 y8 y9 y10 y11))
  | 0 => ⟨fun _ _ _ _ _ r h => by simp [spec_l9Handle.f] at h, fun _ _ _ _ _ _ _ _ _ _ _ _ r h => by simp [spec_l9Handle.j0] at h⟩
  | k + 1 => by
    obtain ⟨ih0, ih1⟩ := spec_l9Handle.mono_l k
    refine ⟨?_, ?_⟩
    · intro y0 y1 y2 y3 y4
      unfold spec_l9Handle.f
      repeat' first
      | (with_reducible exact ih0 _ _ _ _ _)
      | (with_reducible exact ih1 _ _ _ _ _ _ _ _ _ _ _ _)
      | (with_reducible exact spec_l9Leaves.mono _ _ _ _)
      | (with_reducible exact spec_l9Size.mono _ _ _ _)
      | (with_reducible exact spec_l9With.mono _ _ _ _ _ _ _)
      | (with_reducible exact LeO.refl _)
      | (with_reducible exact LeO.none _)
      | (with_reducible refine LeO.ite ?_ ?_)
      | (with_reducible refine LeO.bind ?_ (fun _ => ?_))
      | exact ih0 _ _ _ _ _
      | exact ih1 _ _ _ _ _ _ _ _ _ _ _ _
      | exact spec_l9Leaves.mono _ _ _ _
      | exact spec_l9Size.mono _ _ _ _
      | exact spec_l9With.mono _ _ _ _ _ _ _
      | exact LeO.none _
      | refine LeO.ite ?_ ?_
      | refine LeO.bind ?_ (fun _ => ?_)
    · intro y0 y1 y2 y3 y4 y5 y6 y7 y8 y9 y10 y11
      unfold spec_l9Handle.j0
      repeat' first
      | (with_reducible exact ih0 _ _ _ _ _)
      | (with_reducible exact ih1 _ _ _ _ _ _ _ _ _ _ _ _)
      | (with_reducible exact spec_l9Leaves.mono _ _ _ _)
      | (with_reducible exact spec_l9Size.mono _ _ _ _)
      | (with_reducible exact spec_l9With.mono _ _ _ _ _ _ _)
      | (with_reducible exact LeO.refl _)
      | (with_reducible exact LeO.none _)
      | (with_reducible refine LeO.ite ?_ ?_)
      | (with_reducible refine LeO.bind ?_ (fun _ => ?_))
      | exact ih0 _ _ _ _ _
      | exact ih1 _ _ _ _ _ _ _ _ _ _ _ _
      | exact spec_l9Leaves.mono _ _ _ _
      | exact spec_l9Size.mono _ _ _ _
      | exact spec_l9With.mono _ _ _ _ _ _ _
      | exact LeO.none _
      | refine LeO.ite ?_ ?_
      | refine LeO.bind ?_ (fun _ => ?_)
theorem spec_l9Handle.mono : ∀ a0 a1 a2 a3 a4 k, LeO (spec_l9Handle.f k a0 a1 a2 a3 a4) (spec_l9Handle.f (k + 1) a0 a1 a2 a3 a4) := by
  intro a0 a1 a2 a3 a4 k
  obtain ⟨ih0, ih1⟩ := spec_l9Handle.mono_l k
  exact ih0 a0 a1 a2 a3 a4
def spec_l9Handle.T8 : Bool × List (List Nat × List Nat) := (true, [([], []), ([], []), ([1], [1]), ([2], [2]), ([3], [3]), ([0, 4], [0, 4]), ([5], [5]), ([5], [5]), ([6, 5, 0, 1, 2, 3, 4, 5, 6, 7], [6]), ([7, 8, 0, 1, 2, 3, 4, 5, 6, 7, 8], [7])])
def spec_l9Handle.B8 : List Nat := [0, 0, 2, 6, 14, 31, 63, 63, 255, 511]
theorem spec_l9Handle.tab8 : rtab .any (opsOf Try.f87 8) = spec_l9Handle.T8 := by kernel_rfl
theorem spec_l9Handle.bits8 : waitsOk spec_l9Handle.T8.2 spec_l9Handle.B8 = true := by kernel_rfl
def spec_l9Handle.T10 : Bool × List (List Nat × List Nat) := (true, [([], []), ([], []), ([1], [1]), ([2], [2]), ([3], [3]), ([0, 4], [0, 4]), ([5], [5]), ([5], [5]), ([6, 5, 0, 1, 2, 3, 4, 5, 6, 7], [6]), ([7, 8, 0, 1, 2, 3, 4, 5, 6, 7, 8], [7])])
def spec_l9Handle.B10 : List Nat := [0, 0, 2, 6, 14, 31, 63, 63, 255, 511]
theorem spec_l9Handle.tab10 : rtab .any (opsOf Try.f87 10) = spec_l9Handle.T10 := by kernel_rfl
theorem spec_l9Handle.bits10 : waitsOk spec_l9Handle.T10.2 spec_l9Handle.B10 = true := by kernel_rfl
def spec_l9Handle.T11 : Bool × List (List Nat × List Nat) := (true, [([], []), ([], []), ([1], [1]), ([2], [2]), ([3], [3]), ([0, 4], [0, 4]), ([5], [5]), ([6], [6]), ([6], [6]), ([], []), ([9, 7, 5, 0, 1, 2, 3, 4, 5, 6, 7, 9], [7, 9]), ([8, 10, 0, 1, 2, 3, 4, 5, 6, 7, 8, 9, 10], [8])])
def spec_l9Handle.B11 : List Nat := [0, 0, 2, 6, 14, 31, 63, 127, 127, 0, 767, 2047]
theorem spec_l9Handle.tab11 : rtab .any (opsOf Try.f87 11) = spec_l9Handle.T11 := by kernel_rfl
theorem spec_l9Handle.bits11 : waitsOk spec_l9Handle.T11.2 spec_l9Handle.B11 = true := by kernel_rfl
def spec_l9Handle.T12 : Bool × List (List Nat × List Nat) := (true, [([], []), ([], []), ([1], [1]), ([2], [2]), ([3], [3]), ([0, 4], [0, 4]), ([5], [5]), ([6], [6]), ([6], [6]), ([], []), ([9, 7, 5, 0, 1, 2, 3, 4, 5, 6, 7, 9], [7, 9]), ([8, 10, 0, 1, 2, 3, 4, 5, 6, 7, 8, 9, 10], [8])])
def spec_l9Handle.B12 : List Nat := [0, 0, 2, 6, 14, 31, 63, 127, 127, 0, 767, 2047]
theorem spec_l9Handle.tab12 : rtab .any (opsOf Try.f87 12) = spec_l9Handle.T12 := by kernel_rfl
theorem spec_l9Handle.bits12 : waitsOk spec_l9Handle.T12.2 spec_l9Handle.B12 = true := by kernel_rfl
def spec_l9Handle.T16 : Bool × List (List Nat × List Nat) := (true, [([], []), ([0], [0]), ([], []), ([2, 1], [2]), ([], []), ([4, 3], [4]), ([5], [5]), ([3, 6], [3, 6]), ([1, 7], [1, 7]), ([8], [8])])
def spec_l9Handle.B16 : List Nat := [0, 1, 0, 7, 0, 31, 63, 127, 255, 511]
theorem spec_l9Handle.tab16 : rtab .any (opsOf Try.f87 16) = spec_l9Handle.T16 := by kernel_rfl
theorem spec_l9Handle.bits16 : waitsOk spec_l9Handle.T16.2 spec_l9Handle.B16 = true := by kernel_rfl
set_option maxHeartbeats 8000000 in
set_option maxRecDepth 100000 in
theorem spec_l9Handle.calls_B (k : Nat) (ih : ∀ m_, m_ < k + 1 → ∀ (a0_0 : Int) (A0_1 : Option Addr) (c0_1 : Nat) (l0_1 : List (S82)) (a1_0 : Bool) (a1_1 : Int) (A1_2 : Option Addr) (c1_2 : Nat) (l1_2 : List (S93)) (r1 : Bool) (r2 : Int) (r3 : List (S93)) (r4 : Bool) (w : World) (hr0_1 : Kd.C k82 w A0_1 l0_1.length l0_1) (hc0_1 : l0_1.length ≤ c0_1) (hr1_2 : Kd.C k93 w A1_2 l1_2.length l1_2) (hc1_2 : l1_2.length ≤ c1_2) (h : spec_l9Handle.f m_ a0_0 l0_1 a1_0 a1_1 l1_2 = some (r1, r2, r3, r4)),
    Calls Try.prog 87 #[.agg #[.int .i64 a0_0, .slice A0_1 l0_1.length c0_1], .agg #[.bool a1_0, .int .i64 a1_1, .slice A1_2 l1_2.length c1_2]] w fun e w' => ∃ v2_ : Value, e = .returned (.tuple #[.agg #[.bool r1, .int .i64 r2, v2_], .bool r4]) ∧ Kd.N k93 93 w' w.heap.size (fun k_ => (w.heap.size ≤ k_)) v2_ r3 ∧ Below w.heap.size w w') : ∀ (a0_0 : Int) (A0_1 : Option Addr) (c0_1 : Nat) (l0_1 : List (S82)) (a1_0 : Bool) (a1_1 : Int) (A1_2 : Option Addr) (c1_2 : Nat) (l1_2 : List (S93)) (r1 : Bool) (r2 : Int) (r3 : List (S93)) (r4 : Bool) (w : World) (hr0_1 : Kd.C k82 w A0_1 l0_1.length l0_1) (hc0_1 : l0_1.length ≤ c0_1) (hr1_2 : Kd.C k93 w A1_2 l1_2.length l1_2) (hc1_2 : l1_2.length ≤ c1_2) (h : spec_l9Handle.f (k + 1) a0_0 l0_1 a1_0 a1_1 l1_2 = some (r1, r2, r3, r4)) (c3 : a1_0 = true) (c4 : 0 ≤ a1_1) (c5 : a1_1 < (l0_1.length : Int)) (c6 : ¬ (((rd_T82 l0_1 a1_1).f0) = 4)) (c21 : ¬ (((rd_T82 l0_1 a1_1).f0) = 1)) (c44 : ¬ (((rd_T82 l0_1 a1_1).f0) = 2)) (c67 : 0 < (l1_2.length : Int)) (c69 : 1 < (l1_2.length : Int)),
    Calls Try.prog 87 #[.agg #[.int .i64 a0_0, .slice A0_1 l0_1.length c0_1], .agg #[.bool a1_0, .int .i64 a1_1, .slice A1_2 l1_2.length c1_2]] w fun e w' => ∃ v2_ : Value, e = .returned (.tuple #[.agg #[.bool r1, .int .i64 r2, v2_], .bool r4]) ∧ Kd.N k93 93 w' w.heap.size (fun k_ => (w.heap.size ≤ k_)) v2_ r3 ∧ Below w.heap.size w w' := by
  intro a0_0 A0_1 c0_1 l0_1 a1_0 a1_1 A1_2 c1_2 l1_2 r1 r2 r3 r4 w hr0_1 hc0_1 hr1_2 hc1_2 h c3 c4 c5 c6 c21 c44 c67 c69
  simp only [spec_l9Handle.f] at h
  have hu29 := Try.underlying29
  have hu93 := Try.underlying93
  have hu82 := Try.underlying82
  have HR0_1 := ab_ hr0_1
  have HC0_1 := ab_ hc0_1
  clear hr0_1 hc0_1
  have HR1_2 := ab_ hr1_2
  have HC1_2 := ab_ hc1_2
  clear hr1_2 hc1_2
  have HB := ab_ (av_ w.heap.size w)
  have H : (if a1_0 = true then (if 0 ≤ a1_1 then (if a1_1 < (l0_1.length : Int) then (if ((rd_T82 l0_1 a1_1).f0) = 4 then (some (false, (rd_T82 l0_1 a1_1).f1, ([] : List (S93)), true)) else (if ((rd_T82 l0_1 a1_1).f0) = 1 then (if 0 < (l1_2.length : Int) then ((spec_l9Handle.f k a0_0 l0_1 ((rd_T93 l1_2 0).f0) ((rd_T93 l1_2 0).f1) ((rd_T93 l1_2 0).f2)).bind fun bt915 => (some (bt915.1, bt915.2.1, bt915.2.2.1, bt915.2.2.2))) else (none)) else (if ((rd_T82 l0_1 a1_1).f0) = 2 then (if 1 < (l1_2.length : Int) then ((spec_l9Handle.f k a0_0 l0_1 ((rd_T93 l1_2 1).f0) ((rd_T93 l1_2 1).f1) ((rd_T93 l1_2 1).f2)).bind fun bt922 => (some (bt922.1, bt922.2.1, bt922.2.2.1, bt922.2.2.2))) else (none)) else (if 0 < (l1_2.length : Int) then ((spec_l9Handle.f k a0_0 l0_1 ((rd_T93 l1_2 0).f0) ((rd_T93 l1_2 0).f1) ((rd_T93 l1_2 0).f2)).bind fun bt929 => (if 1 < (l1_2.length : Int) then ((spec_l9Handle.f k a0_0 l0_1 ((rd_T93 l1_2 1).f0) ((rd_T93 l1_2 1).f1) ((rd_T93 l1_2 1).f2)).bind fun bt937 => (if bt929.2.2.2 = true then (spec_l9Handle.j0 k (!bt937.2.2.2) a1_0 a1_1 l1_2 ((rd_T82 l0_1 a1_1).f0) ((rd_T82 l0_1 a1_1).f1) bt929.1 bt929.2.1 bt929.2.2.1 bt937.1 bt937.2.1 bt937.2.2.1) else (spec_l9Handle.j0 k true a1_0 a1_1 l1_2 ((rd_T82 l0_1 a1_1).f0) ((rd_T82 l0_1 a1_1).f1) bt929.1 bt929.2.1 bt929.2.2.1 bt937.1 bt937.2.1 bt937.2.2.1))) else (none))) else (none))))) else (none)) else (none)) else (some (false, Int.tmod (wrap64 (a1_1 + a0_0)) 100, ([] : List (S93)), true))) = some (r1, r2, r3, r4) := h
  clear h
  subst c3
  have H1 : (if 0 ≤ a1_1 then (if a1_1 < (l0_1.length : Int) then (if ((rd_T82 l0_1 a1_1).f0) = 4 then (some (false, (rd_T82 l0_1 a1_1).f1, ([] : List (S93)), true)) else (if ((rd_T82 l0_1 a1_1).f0) = 1 then (if 0 < (l1_2.length : Int) then ((spec_l9Handle.f k a0_0 l0_1 ((rd_T93 l1_2 0).f0) ((rd_T93 l1_2 0).f1) ((rd_T93 l1_2 0).f2)).bind fun bt915 => (some (bt915.1, bt915.2.1, bt915.2.2.1, bt915.2.2.2))) else (none)) else (if ((rd_T82 l0_1 a1_1).f0) = 2 then (if 1 < (l1_2.length : Int) then ((spec_l9Handle.f k a0_0 l0_1 ((rd_T93 l1_2 1).f0) ((rd_T93 l1_2 1).f1) ((rd_T93 l1_2 1).f2)).bind fun bt922 => (some (bt922.1, bt922.2.1, bt922.2.2.1, bt922.2.2.2))) else (none)) else (if 0 < (l1_2.length : Int) then ((spec_l9Handle.f k a0_0 l0_1 ((rd_T93 l1_2 0).f0) ((rd_T93 l1_2 0).f1) ((rd_T93 l1_2 0).f2)).bind fun bt929 => (if 1 < (l1_2.length : Int) then ((spec_l9Handle.f k a0_0 l0_1 ((rd_T93 l1_2 1).f0) ((rd_T93 l1_2 1).f1) ((rd_T93 l1_2 1).f2)).bind fun bt937 => (if bt929.2.2.2 = true then (spec_l9Handle.j0 k (!bt937.2.2.2) true a1_1 l1_2 ((rd_T82 l0_1 a1_1).f0) ((rd_T82 l0_1 a1_1).f1) bt929.1 bt929.2.1 bt929.2.2.1 bt937.1 bt937.2.1 bt937.2.2.1) else (spec_l9Handle.j0 k true true a1_1 l1_2 ((rd_T82 l0_1 a1_1).f0) ((rd_T82 l0_1 a1_1).f1) bt929.1 bt929.2.1 bt929.2.2.1 bt937.1 bt937.2.1 bt937.2.2.1))) else (none))) else (none))))) else (none)) else (none)) = some (r1, r2, r3, r4) := by rw [if_pos rfl] at H; exact H
  clear H
  have H := H1
  clear H1
  rw [if_pos c4] at H
  have c4b0 : decide (0 ≤ a1_1) = true := at_ c4
  clear c4
  rw [if_pos c5] at H
  have c5b0 : decide (a1_1 < (l0_1.length : Int)) = true := at_ c5
  clear c5
  rw [if_neg c6] at H
  have c6b0 : (((rd_T82 l0_1 a1_1).f0) == 4) = false := beq_eq_false_iff_ne.mpr c6
  have c6b1 : (((rd_T82 l0_1 a1_1).f0) != 4) = true := bne_iff_ne.mpr c6
  rw [if_neg c21] at H
  have c21b0 : (((rd_T82 l0_1 a1_1).f0) == 1) = false := beq_eq_false_iff_ne.mpr c21
  have c21b1 : (((rd_T82 l0_1 a1_1).f0) != 1) = true := bne_iff_ne.mpr c21
  rw [if_neg c44] at H
  have c44b0 : (((rd_T82 l0_1 a1_1).f0) == 2) = false := beq_eq_false_iff_ne.mpr c44
  have c44b1 : (((rd_T82 l0_1 a1_1).f0) != 2) = true := bne_iff_ne.mpr c44
  rw [if_pos c67] at H
  have c67b0 : decide (0 < (l1_2.length : Int)) = true := at_ c67
  have c67b1 : decide (0 < l1_2.length) = true := at_ (by omega)
  clear c67
  replace H := Option.bind_eq_some_iff.mp H
  obtain ⟨⟨t929, t930, t931, t934⟩, A680, H⟩ := H
  replace H : (if 1 < (l1_2.length : Int) then ((spec_l9Handle.f k a0_0 l0_1 ((rd_T93 l1_2 1).f0) ((rd_T93 l1_2 1).f1) ((rd_T93 l1_2 1).f2)).bind fun bt937 => (if t934 = true then (spec_l9Handle.j0 k (!bt937.2.2.2) true a1_1 l1_2 ((rd_T82 l0_1 a1_1).f0) ((rd_T82 l0_1 a1_1).f1) t929 t930 t931 bt937.1 bt937.2.1 bt937.2.2.1) else (spec_l9Handle.j0 k true true a1_1 l1_2 ((rd_T82 l0_1 a1_1).f0) ((rd_T82 l0_1 a1_1).f1) t929 t930 t931 bt937.1 bt937.2.1 bt937.2.2.1))) else (none)) = some (r1, r2, r3, r4) := H
  have A68 := ab_ A680
  clear A680
  rw [if_pos c69] at H
  have c69b0 : decide (1 < (l1_2.length : Int)) = true := at_ c69
  have c69b1 : decide (1 < l1_2.length) = true := at_ (by omega)
  clear c69
  replace H := Option.bind_eq_some_iff.mp H
  obtain ⟨⟨t937, t938, t939, t942⟩, A700, H⟩ := H
  replace H : (if t934 = true then (spec_l9Handle.j0 k (!t942) true a1_1 l1_2 ((rd_T82 l0_1 a1_1).f0) ((rd_T82 l0_1 a1_1).f1) t929 t930 t931 t937 t938 t939) else (spec_l9Handle.j0 k true true a1_1 l1_2 ((rd_T82 l0_1 a1_1).f0) ((rd_T82 l0_1 a1_1).f1) t929 t930 t931 t937 t938 t939)) = some (r1, r2, r3, r4) := H
  have A70 := ab_ A700
  clear A700
  have HC71 := ab_ H
  clear H
  go_enter Try.func87, Try.ntmps87
  try go_wp2_with (first | ((with_reducible refine gate_dst (N := 2) rfl ?_); refine box_event ?hg (N := 2) ?hd (cs := #[.int .i64 a0_0, .slice A0_1 l0_1.length c0_1]) (t := 29) ?hr ?_; (case hd => rfl); (case hg => rfl); (case hr => first | (go_simp; done) | (go_simp; rfl)); intro gb909 hg w72 hbox hb; have n0_ := ab_ (au_ (by repeat (first | (with_reducible first | exact HB.out | apply ai_ | apply ag_ | apply ah_) | exact HB.out)) hb); have n1_ := ab_ (hbox); have n2_ := ab_ ((by rw [hg]; exact (below_size (by repeat (first | (with_reducible first | exact HB.out | apply ai_ | apply ag_ | apply ah_) | exact HB.out))) : w.heap.size ≤ gb909)); have n3_ := ab_ ((by rw [hg]; exact (below_size (by repeat (first | (with_reducible first | exact HB.out | apply ai_ | apply ag_ | apply ah_) | exact HB.out))) : w.heap.size ≤ gb909)); clear HB; have HB := n0_; have BK909 := n1_; have GW909 := n2_; have GE909 := n3_; clear n0_ n1_ n2_ n3_; clear hb hbox hg) | ((with_reducible refine gate_dst (N := 3) rfl ?_); refine box_event ?hg (N := 3) ?hd (cs := #[.bool true, .int .i64 a1_1, .slice A1_2 l1_2.length c1_2]) (t := 93) ?hr ?_; (case hd => rfl); (case hg => rfl); (case hr => first | (go_simp; done) | (go_simp; rfl)); intro gb910 hg w73 hbox hb; have n0_ := ab_ (blk_below (g := gb909) (o := .cells #[.int .i64 a0_0, .slice A0_1 l0_1.length c0_1] 29 (0, 0)) (by (with_reducible repeat (first | refine ac_ ?_ _ | refine ae_ ?_ | refine ad_ ?_ _)); exact BK909.out) hb); have n1_ := ab_ (au_ (by repeat (first | (with_reducible first | exact HB.out | apply ai_ | apply ag_ | apply ah_ | refine af_ ?_ GE909.out) | exact HB.out)) hb); have n2_ := ab_ (hbox); have n3_ := ab_ ((by rw [hg]; exact (below_size (by repeat (first | (with_reducible first | exact HB.out | apply ai_ | apply ag_ | apply ah_ | refine af_ ?_ GE909.out) | exact HB.out))) : w.heap.size ≤ gb910)); have n4_ := ab_ ((by rw [hg]; exact (below_size (by repeat (first | (with_reducible first | exact HB.out | apply ai_ | apply ag_ | apply ah_ | refine af_ ?_ GE909.out) | exact HB.out))) : w.heap.size ≤ gb910)); have n5_ := ab_ ((by rw [hg]; exact ak_ (blk_lt (g := gb909) (o := .cells #[.int .i64 a0_0, .slice A0_1 l0_1.length c0_1] 29 (0, 0)) (by (with_reducible repeat (first | refine ac_ ?_ _ | refine ae_ ?_ | refine ad_ ?_ _)); exact BK909.out)) : gb909 ≠ gb910)); have n6_ := ab_ ((by rw [hg]; exact Nat.ne_of_gt (blk_lt (g := gb909) (o := .cells #[.int .i64 a0_0, .slice A0_1 l0_1.length c0_1] 29 (0, 0)) (by (with_reducible repeat (first | refine ac_ ?_ _ | refine ae_ ?_ | refine ad_ ?_ _)); exact BK909.out)) : gb910 ≠ gb909)); clear BK909; clear HB; have BK909 := n0_; have HB := n1_; have BK910 := n2_; have GW910 := n3_; have GE910 := n4_; have NB909_910 := n5_; have NB910_909 := n6_; clear n0_ n1_ n2_ n3_ n4_ n5_ n6_; clear hb hbox hg) | ((with_reducible refine gate_dst (N := 4) rfl ?_); refine box_event ?hg (N := 4) ?hd (cs := #[.bool false, .int .i64 0, .slice none 0 0]) (t := 93) ?hr ?_; (case hd => rfl); (case hg => rfl); (case hr => first | (go_simp; done) | (go_simp; rfl)); intro gb911 hg w74 hbox hb; have n0_ := ab_ (blk_below (g := gb909) (o := .cells #[.int .i64 a0_0, .slice A0_1 l0_1.length c0_1] 29 (0, 0)) (by (with_reducible repeat (first | refine ac_ ?_ _ | refine ae_ ?_ | refine ad_ ?_ _)); exact BK909.out) hb); have n1_ := ab_ (blk_below (g := gb910) (o := .cells #[.bool true, .int .i64 a1_1, .slice A1_2 l1_2.length c1_2] 93 (0, 0)) (by (with_reducible repeat (first | refine ac_ ?_ _ | refine ae_ ?_ | refine ad_ ?_ _)); exact BK910.out) hb); have n2_ := ab_ (au_ (by repeat (first | (with_reducible first | exact HB.out | apply ai_ | apply ag_ | apply ah_ | refine af_ ?_ GE909.out | refine af_ ?_ GE910.out) | exact HB.out)) hb); have n3_ := ab_ (hbox); have n4_ := ab_ ((by rw [hg]; exact (below_size (by repeat (first | (with_reducible first | exact HB.out | apply ai_ | apply ag_ | apply ah_ | refine af_ ?_ GE909.out | refine af_ ?_ GE910.out) | exact HB.out))) : w.heap.size ≤ gb911)); have n5_ := ab_ ((by rw [hg]; exact (below_size (by repeat (first | (with_reducible first | exact HB.out | apply ai_ | apply ag_ | apply ah_ | refine af_ ?_ GE909.out | refine af_ ?_ GE910.out) | exact HB.out))) : w.heap.size ≤ gb911)); have n6_ := ab_ ((by rw [hg]; exact ak_ (blk_lt (g := gb909) (o := .cells #[.int .i64 a0_0, .slice A0_1 l0_1.length c0_1] 29 (0, 0)) (by (with_reducible repeat (first | refine ac_ ?_ _ | refine ae_ ?_ | refine ad_ ?_ _)); exact BK909.out)) : gb909 ≠ gb911)); have n7_ := ab_ ((by rw [hg]; exact Nat.ne_of_gt (blk_lt (g := gb909) (o := .cells #[.int .i64 a0_0, .slice A0_1 l0_1.length c0_1] 29 (0, 0)) (by (with_reducible repeat (first | refine ac_ ?_ _ | refine ae_ ?_ | refine ad_ ?_ _)); exact BK909.out)) : gb911 ≠ gb909)); have n8_ := ab_ ((by rw [hg]; exact ak_ (blk_lt (g := gb910) (o := .cells #[.bool true, .int .i64 a1_1, .slice A1_2 l1_2.length c1_2] 93 (0, 0)) (by (with_reducible repeat (first | refine ac_ ?_ _ | refine ae_ ?_ | refine ad_ ?_ _)); exact BK910.out)) : gb910 ≠ gb911)); have n9_ := ab_ ((by rw [hg]; exact Nat.ne_of_gt (blk_lt (g := gb910) (o := .cells #[.bool true, .int .i64 a1_1, .slice A1_2 l1_2.length c1_2] 93 (0, 0)) (by (with_reducible repeat (first | refine ac_ ?_ _ | refine ae_ ?_ | refine ad_ ?_ _)); exact BK910.out)) : gb911 ≠ gb910)); clear BK909; clear BK910; clear HB; have BK909 := n0_; have BK910 := n1_; have HB := n2_; have BK911 := n3_; have GW911 := n4_; have GE911 := n5_; have NB909_911 := n6_; have NB911_909 := n7_; have NB910_911 := n8_; have NB911_910 := n9_; clear n0_ n1_ n2_ n3_ n4_ n5_ n6_ n7_ n8_ n9_; clear hb hbox hg; have hnb75 := NB910_909.out; have hnc75 := NB909_910.out; have hnb76 := NB910_911.out; have hnc76 := NB911_910.out; have hcz77_0 : w74.cell? ⟨gb910, 0, none⟩ = some (.bool true) := (an_ BK910.out 0).trans rfl; have hcz77_1 : w74.cell? ⟨gb910, 1, none⟩ = some (.int .i64 a1_1) := (an_ BK910.out 1).trans rfl; have hcz77_2 : w74.cell? ⟨gb910, 2, none⟩ = some (.slice A1_2 l1_2.length c1_2) := (an_ BK910.out 2).trans rfl; have hfz77_0 := am_ BK910.out 0; have hfz77_1 := am_ BK910.out 1; have hfz77_2 := am_ BK910.out 2; have hnb78 := NB909_911.out; have hnc78 := NB911_909.out; have hcz79_0 : w74.cell? ⟨gb909, 0, none⟩ = some (.int .i64 a0_0) := (an_ BK909.out 0).trans rfl; have hcz79_1 : w74.cell? ⟨gb909, 1, none⟩ = some (.slice A0_1 l0_1.length c0_1) := (an_ BK909.out 1).trans rfl; have hfz79_0 := am_ BK909.out 0; have hfz79_1 := am_ BK909.out 1; have p912 : 0 ≤ (a1_1 : Int) := of_decide_eq_true (by first | (with_reducible assumption) | assumption); have q912 : a1_1 < (l0_1.length : Int) := of_decide_eq_true (by first | (with_reducible assumption) | assumption); obtain ⟨ad912, e912, hx912_0, hx912_1⟩ := at_T82 HR0_1.out a1_1 p912 q912; cases e912; replace hx912_0 := (HB.out.cell (aa_ w _ hx912_0)).trans hx912_0; replace hx912_1 := (HB.out.cell (aa_ w _ hx912_1)).trans hx912_1; replace p912 := eq_true p912; replace q912 := eq_true q912) | ((with_reducible refine gate_dst (N := 6) rfl ?_); refine box_event ?hg (N := 6) ?hd (cs := #[.int .i64 0, .int .i64 0]) (t := 82) ?hr ?_; (case hd => rfl); (case hg => rfl); (case hr => first | (go_simp; done) | (go_simp; rfl)); intro gb913 hg w80 hbox hb; have n0_ := ab_ (blk_below (g := gb909) (o := .cells #[.int .i64 a0_0, .slice (some ad912) l0_1.length c0_1] 29 (0, 0)) (by (with_reducible repeat (first | refine ac_ ?_ _ | refine ae_ ?_ | refine ad_ ?_ _)); exact BK909.out) hb); have n1_ := ab_ (blk_below (g := gb910) (o := .cells #[.bool true, .int .i64 a1_1, .slice A1_2 l1_2.length c1_2] 93 (0, 0)) (by (with_reducible repeat (first | refine ac_ ?_ _ | refine ae_ ?_ | refine ad_ ?_ _)); exact BK910.out) hb); have n2_ := ab_ (blk_below (g := gb911) (o := .cells #[.bool false, .int .i64 0, .slice none 0 0] 93 (0, 0)) (by (with_reducible repeat (first | refine ac_ ?_ _ | refine ae_ ?_ | refine ad_ ?_ _)); exact BK911.out) hb); have n3_ := ab_ (au_ (by repeat (first | (with_reducible first | exact HB.out | apply ai_ | apply ag_ | apply ah_ | refine af_ ?_ GE909.out | refine af_ ?_ GE910.out | refine af_ ?_ GE911.out) | exact HB.out)) hb); have n4_ := ab_ (hbox); have n5_ := ab_ ((by rw [hg]; exact (below_size (by repeat (first | (with_reducible first | exact HB.out | apply ai_ | apply ag_ | apply ah_ | refine af_ ?_ GE909.out | refine af_ ?_ GE910.out | refine af_ ?_ GE911.out) | exact HB.out))) : w.heap.size ≤ gb913)); have n6_ := ab_ ((by rw [hg]; exact (below_size (by repeat (first | (with_reducible first | exact HB.out | apply ai_ | apply ag_ | apply ah_ | refine af_ ?_ GE909.out | refine af_ ?_ GE910.out | refine af_ ?_ GE911.out) | exact HB.out))) : w.heap.size ≤ gb913)); have n7_ := ab_ ((by rw [hg]; exact ak_ (blk_lt (g := gb909) (o := .cells #[.int .i64 a0_0, .slice (some ad912) l0_1.length c0_1] 29 (0, 0)) (by (with_reducible repeat (first | refine ac_ ?_ _ | refine ae_ ?_ | refine ad_ ?_ _)); exact BK909.out)) : gb909 ≠ gb913)); have n8_ := ab_ ((by rw [hg]; exact Nat.ne_of_gt (blk_lt (g := gb909) (o := .cells #[.int .i64 a0_0, .slice (some ad912) l0_1.length c0_1] 29 (0, 0)) (by (with_reducible repeat (first | refine ac_ ?_ _ | refine ae_ ?_ | refine ad_ ?_ _)); exact BK909.out)) : gb913 ≠ gb909)); have n9_ := ab_ ((by rw [hg]; exact ak_ (blk_lt (g := gb910) (o := .cells #[.bool true, .int .i64 a1_1, .slice A1_2 l1_2.length c1_2] 93 (0, 0)) (by (with_reducible repeat (first | refine ac_ ?_ _ | refine ae_ ?_ | refine ad_ ?_ _)); exact BK910.out)) : gb910 ≠ gb913)); have n10_ := ab_ ((by rw [hg]; exact Nat.ne_of_gt (blk_lt (g := gb910) (o := .cells #[.bool true, .int .i64 a1_1, .slice A1_2 l1_2.length c1_2] 93 (0, 0)) (by (with_reducible repeat (first | refine ac_ ?_ _ | refine ae_ ?_ | refine ad_ ?_ _)); exact BK910.out)) : gb913 ≠ gb910)); have n11_ := ab_ ((by rw [hg]; exact ak_ (blk_lt (g := gb911) (o := .cells #[.bool false, .int .i64 0, .slice none 0 0] 93 (0, 0)) (by (with_reducible repeat (first | refine ac_ ?_ _ | refine ae_ ?_ | refine ad_ ?_ _)); exact BK911.out)) : gb911 ≠ gb913)); have n12_ := ab_ ((by rw [hg]; exact Nat.ne_of_gt (blk_lt (g := gb911) (o := .cells #[.bool false, .int .i64 0, .slice none 0 0] 93 (0, 0)) (by (with_reducible repeat (first | refine ac_ ?_ _ | refine ae_ ?_ | refine ad_ ?_ _)); exact BK911.out)) : gb913 ≠ gb911)); clear BK909; clear BK910; clear BK911; clear HB; have BK909 := n0_; have BK910 := n1_; have BK911 := n2_; have HB := n3_; have BK913 := n4_; have GW913 := n5_; have GE913 := n6_; have NB909_913 := n7_; have NB913_909 := n8_; have NB910_913 := n9_; have NB913_910 := n10_; have NB911_913 := n11_; have NB913_911 := n12_; clear n0_ n1_ n2_ n3_ n4_ n5_ n6_ n7_ n8_ n9_ n10_ n11_ n12_; clear hb hbox hg; have hnb81 := NB913_909.out; have hnc81 := NB909_913.out; have hnb82 := NB913_910.out; have hnc82 := NB910_913.out; have hnb83 := NB913_911.out; have hnc83 := NB911_913.out; have hcz84_0 : w80.cell? ⟨gb913, 0, none⟩ = some (.int .i64 0) := (an_ BK913.out 0).trans rfl; have hcz84_1 : w80.cell? ⟨gb913, 1, none⟩ = some (.int .i64 0) := (an_ BK913.out 1).trans rfl; have hfz84_0 := am_ BK913.out 0; have hfz84_1 := am_ BK913.out 1))
  have n0_ : Aside0 (((w80.setCell ⟨gb913, 0, none⟩ (.int .i64 ((rd_T82 l0_1 a1_1).f0))).setCell ⟨gb913, 1, none⟩ (.int .i64 ((rd_T82 l0_1 a1_1).f1))).heap[gb909]? = some (.cells #[.int .i64 a0_0, .slice (some ad912) l0_1.length c0_1] 29 (0, 0))) := ⟨by (with_reducible repeat (first | refine ac_ ?_ _ | refine ae_ ?_ | refine ad_ ?_ _)); refine blk_far ?_ NB909_913.out _; (with_reducible repeat (first | refine ac_ ?_ _ | refine ae_ ?_ | refine ad_ ?_ _)); refine blk_far ?_ NB909_913.out _; (with_reducible repeat (first | refine ac_ ?_ _ | refine ae_ ?_ | refine ad_ ?_ _)); exact BK909.out⟩
  have n1_ : Aside0 (((w80.setCell ⟨gb913, 0, none⟩ (.int .i64 ((rd_T82 l0_1 a1_1).f0))).setCell ⟨gb913, 1, none⟩ (.int .i64 ((rd_T82 l0_1 a1_1).f1))).heap[gb910]? = some (.cells #[.bool true, .int .i64 a1_1, .slice A1_2 l1_2.length c1_2] 93 (0, 0))) := ⟨by (with_reducible repeat (first | refine ac_ ?_ _ | refine ae_ ?_ | refine ad_ ?_ _)); refine blk_far ?_ NB910_913.out _; (with_reducible repeat (first | refine ac_ ?_ _ | refine ae_ ?_ | refine ad_ ?_ _)); refine blk_far ?_ NB910_913.out _; (with_reducible repeat (first | refine ac_ ?_ _ | refine ae_ ?_ | refine ad_ ?_ _)); exact BK910.out⟩
  have n2_ : Aside0 (((w80.setCell ⟨gb913, 0, none⟩ (.int .i64 ((rd_T82 l0_1 a1_1).f0))).setCell ⟨gb913, 1, none⟩ (.int .i64 ((rd_T82 l0_1 a1_1).f1))).heap[gb911]? = some (.cells #[.bool false, .int .i64 0, .slice none 0 0] 93 (0, 0))) := ⟨by (with_reducible repeat (first | refine ac_ ?_ _ | refine ae_ ?_ | refine ad_ ?_ _)); refine blk_far ?_ NB911_913.out _; (with_reducible repeat (first | refine ac_ ?_ _ | refine ae_ ?_ | refine ad_ ?_ _)); refine blk_far ?_ NB911_913.out _; (with_reducible repeat (first | refine ac_ ?_ _ | refine ae_ ?_ | refine ad_ ?_ _)); exact BK911.out⟩
  have n3_ : Aside0 (((w80.setCell ⟨gb913, 0, none⟩ (.int .i64 ((rd_T82 l0_1 a1_1).f0))).setCell ⟨gb913, 1, none⟩ (.int .i64 ((rd_T82 l0_1 a1_1).f1))).heap[gb913]? = some (.cells #[.int .i64 ((rd_T82 l0_1 a1_1).f0), .int .i64 ((rd_T82 l0_1 a1_1).f1)] 82 (0, 0))) := ⟨by (with_reducible repeat (first | refine ac_ ?_ _ | refine ae_ ?_ | refine ad_ ?_ _)); refine blk_put (cs := #[.int .i64 ((rd_T82 l0_1 a1_1).f0), .int .i64 0]) ?_ 1 _ rfl; (with_reducible repeat (first | refine ac_ ?_ _ | refine ae_ ?_ | refine ad_ ?_ _)); refine blk_put (cs := #[.int .i64 0, .int .i64 0]) ?_ 0 _ rfl; (with_reducible repeat (first | refine ac_ ?_ _ | refine ae_ ?_ | refine ad_ ?_ _)); exact BK913.out⟩
  have n4_ : Aside0 (Below w.heap.size w ((w80.setCell ⟨gb913, 0, none⟩ (.int .i64 ((rd_T82 l0_1 a1_1).f0))).setCell ⟨gb913, 1, none⟩ (.int .i64 ((rd_T82 l0_1 a1_1).f1)))) := ⟨by repeat (first | (with_reducible first | exact HB.out | apply ai_ | apply ag_ | apply ah_ | refine af_ ?_ GE909.out | refine af_ ?_ GE910.out | refine af_ ?_ GE911.out | refine af_ ?_ GE913.out) | exact HB.out)⟩
  (try clear BK909)
  (try clear BK910)
  (try clear BK911)
  (try clear BK913)
  (try clear HB)
  generalize ((w80.setCell ⟨gb913, 0, none⟩ (.int .i64 ((rd_T82 l0_1 a1_1).f0))).setCell ⟨gb913, 1, none⟩ (.int .i64 ((rd_T82 l0_1 a1_1).f1))) = w85 at n0_ n1_ n2_ n3_ n4_ ⊢
  have BK909 := n0_
  have BK910 := n1_
  have BK911 := n2_
  have BK913 := n3_
  have HB := n4_
  clear n0_ n1_ n2_ n3_ n4_
  have n0_ := ab_ (ae_ BK909.out)
  have n1_ := ab_ (ae_ BK910.out)
  have n2_ := ab_ (ae_ BK911.out)
  have n3_ := ab_ (ae_ BK913.out)
  have n4_ := ab_ (ah_ HB.out)
  clear BK909
  clear BK910
  clear BK911
  clear BK913
  clear HB
  have BK909 := n0_
  have BK910 := n1_
  have BK911 := n2_
  have BK913 := n3_
  have HB := n4_
  clear n0_ n1_ n2_ n3_ n4_
  have p928 : 0 ≤ (0 : Int) := (by omega)
  have q928 : 0 < (l1_2.length : Int) := of_decide_eq_true (by first | (with_reducible assumption) | assumption)
  obtain ⟨ad928, A928_2, c928_2, e928, hx928_0, hx928_1, hx928_2, hl928_2, hi928_2⟩ := at_T93 HR1_2.out 0 p928 q928
  have hw928_2 := hx928_2
  (try rw [show ((0 : Int)).toNat = 0 from rfl] at hw928_2)
  (try rw [show 0 * 3 = 0 from rfl] at hw928_2)
  (try rw [Addr.add_zero'] at hw928_2)
  have hw928_1 := hx928_1
  (try rw [show ((0 : Int)).toNat = 0 from rfl] at hw928_1)
  (try rw [show 0 * 3 = 0 from rfl] at hw928_1)
  (try rw [Addr.add_zero'] at hw928_1)
  have hw928_0 := hx928_0
  (try rw [show ((0 : Int)).toNat = 0 from rfl] at hw928_0)
  (try rw [show 0 * 3 = 0 from rfl] at hw928_0)
  (try rw [Addr.add_zero'] at hw928_0)
  cases e928
  have qi928 : (0 < l1_2.length) = True := eq_true (by omega)
  (try rw [show ((0 : Int)).toNat = 0 from rfl] at hx928_0)
  (try rw [show 0 * 3 = 0 from rfl] at hx928_0)
  (try rw [Addr.add_zero'] at hx928_0)
  (try rw [show ((0 : Int)).toNat = 0 from rfl] at hx928_1)
  (try rw [show 0 * 3 = 0 from rfl] at hx928_1)
  (try rw [Addr.add_zero'] at hx928_1)
  (try rw [show ((0 : Int)).toNat = 0 from rfl] at hx928_2)
  (try rw [show 0 * 3 = 0 from rfl] at hx928_2)
  (try rw [Addr.add_zero'] at hx928_2)
  replace hx928_0 := (HB.out.cell (aa_ w _ hx928_0)).trans hx928_0
  replace hx928_1 := (HB.out.cell (aa_ w _ hx928_1)).trans hx928_1
  replace hx928_2 := (HB.out.cell (aa_ w _ hx928_2)).trans hx928_2
  have HR928_2 := ab_ hi928_2
  have HC928_2 := ab_ hl928_2
  clear hi928_2 hl928_2
  replace p928 := eq_true p928
  replace q928 := eq_true q928
  refine start_ (n := 12) (S := fun w' => w'.cell? ⟨gb909, 0, none⟩ = some (.int .i64 a0_0) ∧ w'.cell? ⟨gb909, 1, none⟩ = some (.slice (some ad912) l0_1.length c0_1) ∧ w'.cell? ⟨gb910, 0, none⟩ = some (.bool true) ∧ w'.cell? ⟨gb910, 1, none⟩ = some (.int .i64 a1_1) ∧ w'.cell? ⟨gb910, 2, none⟩ = some (.slice (some ad928) l1_2.length c1_2) ∧ w'.cell? ad928 = some (.bool ((rd_T93 l1_2 0).f0)) ∧ w'.cell? ⟨ad928.block, ad928.off + 1, none⟩ = some (.int .i64 ((rd_T93 l1_2 0).f1)) ∧ w'.cell? ⟨ad928.block, ad928.off + 2, none⟩ = some (.slice A928_2 ((rd_T93 l1_2 0).f2).length c928_2)) (ds := []) #[false, false, false, false, false, false, false, false, false, false, false, false] (by kernel_rfl) rfl rfl ⟨(an_ BK909.out 0).trans rfl, (an_ BK909.out 1).trans rfl, (an_ BK910.out 0).trans rfl, (an_ BK910.out 1).trans rfl, (an_ BK910.out 2).trans rfl, ((HB.out.cell (aa_ w _ hw928_0)).trans hw928_0), ((HB.out.cell (aa_ w _ hw928_1)).trans hw928_1), ((HB.out.cell (aa_ w _ hw928_2)).trans hw928_2)⟩ (fun hHeld => ?_); refine with_tabW spec_l9Handle.tab11 spec_l9Handle.bits11 (fun HT_ HW_ => ?_)
  generalize w85.drew = w86 at BK909 BK910 BK911 BK913 HB HR928_2 hx928_0 hx928_1 hx928_2 hHeld ⊢
  refine pure_ (i := 1) (N := some 57) (v := ?_) (a' := ?_) #[false, true, false, false, false, false, false, false, false, false, false, false] rfl rfl (any_of HT_.out (by kernel_rfl)) (fun _ _ _ h => h) (Or.inl ⟨by rfl, ?_⟩) ?_ ?_
  rotate_left
  · intro w'
    go_simp
    with_reducible rfl
  rotate_left
  · simp only [Act.put, List.setIfInBounds_toArray, List.set_cons_zero, List.set_cons_succ, i64_w, i32_w]
    rfl
  refine take_ (i := 0) (N := some 56) (v := ?_) (a' := ?_) #[true, true, false, false, false, false, false, false, false, false, false, false] rfl rfl (take_ofW HT_.out HW_.out (by kernel_rfl)) (fun _ _ _ h => h) (Or.inl ⟨by rfl, ?_⟩) hHeld ?_ ?_
  rotate_left
  · rintro w' ⟨s0, s1, s2, s3, s4, s5, s6, s7⟩
    go_simp
    with_reducible rfl
  rotate_left
  · simp only [Act.put, List.setIfInBounds_toArray, List.set_cons_zero, List.set_cons_succ, i64_w, i32_w]
    rfl
  refine take_ (i := 2) (N := some 58) (v := ?_) (a' := ?_) #[true, true, true, false, false, false, false, false, false, false, false, false] rfl rfl (take_ofW HT_.out HW_.out (by kernel_rfl)) (fun _ _ _ h => h) (Or.inl ⟨by rfl, ?_⟩) hHeld ?_ ?_
  rotate_left
  · rintro w' ⟨s0, s1, s2, s3, s4, s5, s6, s7⟩
    go_simp
    with_reducible rfl
  rotate_left
  · simp only [Act.put, List.setIfInBounds_toArray, List.set_cons_zero, List.set_cons_succ, i64_w, i32_w]
    rfl
  refine pure_ (i := 3) (N := some 59) (v := ?_) (a' := ?_) #[true, true, true, true, false, false, false, false, false, false, false, false] rfl rfl (any_of HT_.out (by kernel_rfl)) (fun _ _ _ h => h) (Or.inl ⟨by rfl, ?_⟩) ?_ ?_
  rotate_left
  · intro w'
    go_simp
    with_reducible rfl
  rotate_left
  · simp only [Act.put, List.setIfInBounds_toArray, List.set_cons_zero, List.set_cons_succ, i64_w, i32_w]
    rfl
  refine take_ (i := 4) (N := some 60) (v := ?_) (a' := ?_) #[true, true, true, true, true, false, false, false, false, false, false, false] rfl rfl (take_ofW HT_.out HW_.out (by kernel_rfl)) (fun _ _ _ h => h) (Or.inl ⟨by rfl, ?_⟩) hHeld ?_ ?_
  rotate_left
  · rintro w' ⟨s0, s1, s2, s3, s4, s5, s6, s7⟩
    go_simp
    with_reducible rfl
  rotate_left
  · simp only [Act.put, List.setIfInBounds_toArray, List.set_cons_zero, List.set_cons_succ, i64_w, i32_w]
    rfl
  refine join_ (σ := Value × Nat) 2 #[true, true, true, true, true, true, true, true, true, true, false, false] (fun s_ => [(61, .tuple #[.agg #[.bool t929, .int .i64 t930, s_.1], .bool t934]), (7, .pointer (some ⟨s_.2, 0, none⟩)), (55, .tuple #[.agg #[.bool t929, .int .i64 t930, s_.1], .bool t934]), (62, .agg #[.bool t929, .int .i64 t930, s_.1]), (63, .bool t934)]) (fun s_ w' => (w'.cell? ⟨gb909, 0, none⟩ = some (.int .i64 a0_0) ∧ w'.cell? ⟨gb909, 1, none⟩ = some (.slice (some ad912) l0_1.length c0_1) ∧ w'.cell? ⟨gb910, 0, none⟩ = some (.bool true) ∧ w'.cell? ⟨gb910, 1, none⟩ = some (.int .i64 a1_1) ∧ w'.cell? ⟨gb910, 2, none⟩ = some (.slice (some ad928) l1_2.length c1_2) ∧ w'.cell? ad928 = some (.bool ((rd_T93 l1_2 0).f0)) ∧ w'.cell? ⟨ad928.block, ad928.off + 1, none⟩ = some (.int .i64 ((rd_T93 l1_2 0).f1)) ∧ w'.cell? ⟨ad928.block, ad928.off + 2, none⟩ = some (.slice A928_2 ((rd_T93 l1_2 0).f2).length c928_2)) ∧ (Kd.N k93 93 w' w.heap.size (fun k_ => (w.heap.size ≤ k_) ∧ k_ ≠ gb909 ∧ k_ ≠ gb910 ∧ k_ ≠ gb911 ∧ k_ ≠ gb913 ∧ k_ ≠ s_.2) s_.1 t931) ∧ (w'.heap[gb909]? = some (.cells #[.int .i64 a0_0, .slice (some ad912) l0_1.length c0_1] 29 (0, 0))) ∧ (w'.heap[gb910]? = some (.cells #[.bool true, .int .i64 a1_1, .slice (some ad928) l1_2.length c1_2] 93 (0, 0))) ∧ (w'.heap[gb911]? = some (.cells #[.bool false, .int .i64 0, .slice none 0 0] 93 (0, 0))) ∧ (w'.heap[gb913]? = some (.cells #[.int .i64 ((rd_T82 l0_1 a1_1).f0), .int .i64 ((rd_T82 l0_1 a1_1).f1)] 82 (0, 0))) ∧ (w'.heap[s_.2]? = some (.cells #[.bool false, .int .i64 0, .slice none 0 0] 93 (0, 0))) ∧ (w.heap.size ≤ s_.2) ∧ (w.heap.size ≤ s_.2) ∧ (gb909 ≠ s_.2) ∧ (s_.2 ≠ gb909) ∧ (gb910 ≠ s_.2) ∧ (s_.2 ≠ gb910) ∧ (gb911 ≠ s_.2) ∧ (s_.2 ≠ gb911) ∧ (gb913 ≠ s_.2) ∧ (s_.2 ≠ gb913) ∧ (Below w.heap.size w w')) ?_ ?_
  rotate_left
  · intro hCont
    refine two_ (i := 5) (j := 9) (Ni := some 61) (Nj := some 7) #[true, true, true, true, true, true, false, false, false, false, false, false] #[true, true, true, true, true, false, false, false, false, true, false, false] rfl rfl rfl rfl (two_of HT_.out (by kernel_rfl)) (by decide) (by decide) (fun K hK => ?_) (fun K hK => ?_)
    · skip
      refine goes_ Try.func87 (by kernel_rfl) rfl #[.agg #[.int .i64 a0_0, .slice (some ad912) l0_1.length c0_1], .agg #[.bool ((rd_T93 l1_2 0).f0), .int .i64 ((rd_T93 l1_2 0).f1), .slice A928_2 ((rd_T93 l1_2 0).f2).length c928_2]] (by rfl) rfl rfl (by (try simp only [List.map_toArray, List.map_cons, List.map_nil]); first | done | rfl | (simp only [List.length_drop, List.length_take]; rfl)) ?_
      with_reducible refine (ih k (by omega) a0_0 _ _ l0_1 ((rd_T93 l1_2 0).f0) ((rd_T93 l1_2 0).f1) _ _ ((rd_T93 l1_2 0).f2) t929 t930 t931 t934 _ ?side1 ?side2 ?side3 ?side4 A68.out).mono ?_
      (case side1 => repeat (first | exact (Kd.C_below HR0_1.out HB.out) | (with_reducible refine ar_ ?_ _) | (with_reducible refine as_ ?_ _) | (with_reducible refine Kd.C_drew ?_)))
      (case side2 => exact HC0_1.out)
      (case side3 => repeat (first | exact (Kd.C_below HR928_2.out HB.out) | (with_reducible refine ar_ ?_ _) | (with_reducible refine as_ ?_ _) | (with_reducible refine Kd.C_drew ?_)))
      (case side4 => exact HC928_2.out)
      rintro e w87 ⟨v932, rfl, ho0, hb⟩
      refine ⟨_, rfl, ?_⟩
      have n0_ := ab_ (Kd.N_lower (Kd.N_mono (ok' := fun k_ => (w.heap.size ≤ k_) ∧ k_ ≠ gb909 ∧ k_ ≠ gb910 ∧ k_ ≠ gb911 ∧ k_ ≠ gb913) ho0 (fun k_ hk_ => ⟨(Nat.le_trans (below_size (by repeat (first | (with_reducible first | exact HB.out | apply ai_ | apply ag_ | apply ah_ | refine af_ ?_ GE909.out | refine af_ ?_ GE910.out | refine af_ ?_ GE911.out | refine af_ ?_ GE913.out) | exact HB.out))) hk_), (Kd.freshB (g := gb909) (o := .cells #[.int .i64 a0_0, .slice (some ad912) l0_1.length c0_1] 29 (0, 0)) (by (with_reducible repeat (first | refine ac_ ?_ _ | refine ae_ ?_ | refine ad_ ?_ _)); exact BK909.out) k_ hk_), (Kd.freshB (g := gb910) (o := .cells #[.bool true, .int .i64 a1_1, .slice (some ad928) l1_2.length c1_2] 93 (0, 0)) (by (with_reducible repeat (first | refine ac_ ?_ _ | refine ae_ ?_ | refine ad_ ?_ _)); exact BK910.out) k_ hk_), (Kd.freshB (g := gb911) (o := .cells #[.bool false, .int .i64 0, .slice none 0 0] 93 (0, 0)) (by (with_reducible repeat (first | refine ac_ ?_ _ | refine ae_ ?_ | refine ad_ ?_ _)); exact BK911.out) k_ hk_), (Kd.freshB (g := gb913) (o := .cells #[.int .i64 ((rd_T82 l0_1 a1_1).f0), .int .i64 ((rd_T82 l0_1 a1_1).f1)] 82 (0, 0)) (by (with_reducible repeat (first | refine ac_ ?_ _ | refine ae_ ?_ | refine ad_ ?_ _)); exact BK913.out) k_ hk_)⟩)) (below_size (by repeat (first | (with_reducible first | exact HB.out | apply ai_ | apply ag_ | apply ah_ | refine af_ ?_ GE909.out | refine af_ ?_ GE910.out | refine af_ ?_ GE911.out | refine af_ ?_ GE913.out) | exact HB.out))))
      have n1_ := ab_ (blk_below (g := gb909) (o := .cells #[.int .i64 a0_0, .slice (some ad912) l0_1.length c0_1] 29 (0, 0)) (by (with_reducible repeat (first | refine ac_ ?_ _ | refine ae_ ?_ | refine ad_ ?_ _)); exact BK909.out) hb)
      have n2_ := ab_ (blk_below (g := gb910) (o := .cells #[.bool true, .int .i64 a1_1, .slice (some ad928) l1_2.length c1_2] 93 (0, 0)) (by (with_reducible repeat (first | refine ac_ ?_ _ | refine ae_ ?_ | refine ad_ ?_ _)); exact BK910.out) hb)
      have n3_ := ab_ (blk_below (g := gb911) (o := .cells #[.bool false, .int .i64 0, .slice none 0 0] 93 (0, 0)) (by (with_reducible repeat (first | refine ac_ ?_ _ | refine ae_ ?_ | refine ad_ ?_ _)); exact BK911.out) hb)
      have n4_ := ab_ (blk_below (g := gb913) (o := .cells #[.int .i64 ((rd_T82 l0_1 a1_1).f0), .int .i64 ((rd_T82 l0_1 a1_1).f1)] 82 (0, 0)) (by (with_reducible repeat (first | refine ac_ ?_ _ | refine ae_ ?_ | refine ad_ ?_ _)); exact BK913.out) hb)
      have n5_ := ab_ (au_ (by repeat (first | (with_reducible first | exact HB.out | apply ai_ | apply ag_ | apply ah_ | refine af_ ?_ GE909.out | refine af_ ?_ GE910.out | refine af_ ?_ GE911.out | refine af_ ?_ GE913.out) | exact HB.out)) hb)
      clear BK909
      clear BK910
      clear BK911
      clear BK913
      clear HB
      have HO933 := n0_
      have BK909 := n1_
      have BK910 := n2_
      have BK911 := n3_
      have BK913 := n4_
      have HB := n5_
      clear n0_ n1_ n2_ n3_ n4_ n5_
      (try clear hb)
      (try clear hb2)
      (try clear hk)
      (try clear hi)
      (try clear ho0)
      refine hK.out _ _ ⟨(an_ BK909.out 0).trans rfl, (an_ BK909.out 1).trans rfl, (an_ BK910.out 0).trans rfl, (an_ BK910.out 1).trans rfl, (an_ BK910.out 2).trans rfl, ((HB.out.cell (aa_ w _ hw928_0)).trans hw928_0), ((HB.out.cell (aa_ w _ hw928_1)).trans hw928_1), ((HB.out.cell (aa_ w _ hw928_2)).trans hw928_2)⟩ (fun hHeld => ?_)
      clear hK K
      refine norm_ (a' := ?_) ?_ ?_
      rotate_left
      · show Act.put _ (some 61) _ = _
        simp only [Act.put, List.setIfInBounds_toArray, List.set_cons_zero, List.set_cons_succ, i64_w, i32_w]
        rfl
      refine pure_ (i := 6) (N := some 55) (v := ?_) (a' := ?_) #[true, true, true, true, true, true, true, false, false, false, false, false] rfl rfl (any_of HT_.out (by kernel_rfl)) (fun _ _ _ h => h) (Or.inl ⟨by rfl, ?_⟩) ?_ ?_
      rotate_left
      · intro w'
        go_simp
        with_reducible rfl
      rotate_left
      · simp only [Act.put, List.setIfInBounds_toArray, List.set_cons_zero, List.set_cons_succ, i64_w, i32_w]
        rfl
      refine pure_ (i := 7) (N := some 62) (v := ?_) (a' := ?_) #[true, true, true, true, true, true, true, true, false, false, false, false] rfl rfl (any_of HT_.out (by kernel_rfl)) (fun _ _ _ h => h) (Or.inl ⟨by rfl, ?_⟩) ?_ ?_
      rotate_left
      · intro w'
        go_simp
        with_reducible rfl
      rotate_left
      · simp only [Act.put, List.setIfInBounds_toArray, List.set_cons_zero, List.set_cons_succ, i64_w, i32_w]
        rfl
      refine pure_ (i := 8) (N := some 63) (v := ?_) (a' := ?_) #[true, true, true, true, true, true, true, true, true, false, false, false] rfl rfl (any_of HT_.out (by kernel_rfl)) (fun _ _ _ h => h) (Or.inl ⟨by rfl, ?_⟩) ?_ ?_
      rotate_left
      · intro w'
        go_simp
        with_reducible rfl
      rotate_left
      · simp only [Act.put, List.setIfInBounds_toArray, List.set_cons_zero, List.set_cons_succ, i64_w, i32_w]
        rfl
      refine one_ (i := 9) (N := some 7) #[true, true, true, true, true, true, true, true, true, true, false, false] rfl rfl (one_of HT_.out (by kernel_rfl)) (by decide) (fun K hK => ?_)
      refine box_step ?hg (N := 7) ?hd (cs := #[.bool false, .int .i64 0, .slice none 0 0]) (t := 93) ?hr ?_; (case hd => rfl); (case hg => rfl); (case hr => first | (go_simp; done) | (go_simp; rfl))
      intro gb935 hg w88 hbox hb
      have n0_ := ab_ (Kd.N_below (Kd.N_elderB (by (with_reducible repeat (first | apply Kd.N_alloc | apply Kd.N_drewN | apply Kd.N_drew)); exact HO933.out) gb935 (Nat.le_of_eq hg.symm)) hb)
      have n1_ := ab_ (blk_below (g := gb909) (o := .cells #[.int .i64 a0_0, .slice (some ad912) l0_1.length c0_1] 29 (0, 0)) (by (with_reducible repeat (first | refine ac_ ?_ _ | refine ae_ ?_ | refine ad_ ?_ _)); exact BK909.out) hb)
      have n2_ := ab_ (blk_below (g := gb910) (o := .cells #[.bool true, .int .i64 a1_1, .slice (some ad928) l1_2.length c1_2] 93 (0, 0)) (by (with_reducible repeat (first | refine ac_ ?_ _ | refine ae_ ?_ | refine ad_ ?_ _)); exact BK910.out) hb)
      have n3_ := ab_ (blk_below (g := gb911) (o := .cells #[.bool false, .int .i64 0, .slice none 0 0] 93 (0, 0)) (by (with_reducible repeat (first | refine ac_ ?_ _ | refine ae_ ?_ | refine ad_ ?_ _)); exact BK911.out) hb)
      have n4_ := ab_ (blk_below (g := gb913) (o := .cells #[.int .i64 ((rd_T82 l0_1 a1_1).f0), .int .i64 ((rd_T82 l0_1 a1_1).f1)] 82 (0, 0)) (by (with_reducible repeat (first | refine ac_ ?_ _ | refine ae_ ?_ | refine ad_ ?_ _)); exact BK913.out) hb)
      have n5_ := ab_ (au_ (by repeat (first | (with_reducible first | exact HB.out | apply ai_ | apply ag_ | apply ah_ | refine af_ ?_ GE909.out | refine af_ ?_ GE910.out | refine af_ ?_ GE911.out | refine af_ ?_ GE913.out) | exact HB.out)) hb)
      have n6_ := ab_ (hbox)
      have n7_ := ab_ ((by rw [hg]; exact (below_size (by repeat (first | (with_reducible first | exact HB.out | apply ai_ | apply ag_ | apply ah_ | refine af_ ?_ GE909.out | refine af_ ?_ GE910.out | refine af_ ?_ GE911.out | refine af_ ?_ GE913.out) | exact HB.out))) : w.heap.size ≤ gb935))
      have n8_ := ab_ ((by rw [hg]; exact (below_size (by repeat (first | (with_reducible first | exact HB.out | apply ai_ | apply ag_ | apply ah_ | refine af_ ?_ GE909.out | refine af_ ?_ GE910.out | refine af_ ?_ GE911.out | refine af_ ?_ GE913.out) | exact HB.out))) : w.heap.size ≤ gb935))
      have n9_ := ab_ ((by rw [hg]; exact ak_ (blk_lt (g := gb909) (o := .cells #[.int .i64 a0_0, .slice (some ad912) l0_1.length c0_1] 29 (0, 0)) (by (with_reducible repeat (first | refine ac_ ?_ _ | refine ae_ ?_ | refine ad_ ?_ _)); exact BK909.out)) : gb909 ≠ gb935))
      have n10_ := ab_ ((by rw [hg]; exact Nat.ne_of_gt (blk_lt (g := gb909) (o := .cells #[.int .i64 a0_0, .slice (some ad912) l0_1.length c0_1] 29 (0, 0)) (by (with_reducible repeat (first | refine ac_ ?_ _ | refine ae_ ?_ | refine ad_ ?_ _)); exact BK909.out)) : gb935 ≠ gb909))
      have n11_ := ab_ ((by rw [hg]; exact ak_ (blk_lt (g := gb910) (o := .cells #[.bool true, .int .i64 a1_1, .slice (some ad928) l1_2.length c1_2] 93 (0, 0)) (by (with_reducible repeat (first | refine ac_ ?_ _ | refine ae_ ?_ | refine ad_ ?_ _)); exact BK910.out)) : gb910 ≠ gb935))
      have n12_ := ab_ ((by rw [hg]; exact Nat.ne_of_gt (blk_lt (g := gb910) (o := .cells #[.bool true, .int .i64 a1_1, .slice (some ad928) l1_2.length c1_2] 93 (0, 0)) (by (with_reducible repeat (first | refine ac_ ?_ _ | refine ae_ ?_ | refine ad_ ?_ _)); exact BK910.out)) : gb935 ≠ gb910))
      have n13_ := ab_ ((by rw [hg]; exact ak_ (blk_lt (g := gb911) (o := .cells #[.bool false, .int .i64 0, .slice none 0 0] 93 (0, 0)) (by (with_reducible repeat (first | refine ac_ ?_ _ | refine ae_ ?_ | refine ad_ ?_ _)); exact BK911.out)) : gb911 ≠ gb935))
      have n14_ := ab_ ((by rw [hg]; exact Nat.ne_of_gt (blk_lt (g := gb911) (o := .cells #[.bool false, .int .i64 0, .slice none 0 0] 93 (0, 0)) (by (with_reducible repeat (first | refine ac_ ?_ _ | refine ae_ ?_ | refine ad_ ?_ _)); exact BK911.out)) : gb935 ≠ gb911))
      have n15_ := ab_ ((by rw [hg]; exact ak_ (blk_lt (g := gb913) (o := .cells #[.int .i64 ((rd_T82 l0_1 a1_1).f0), .int .i64 ((rd_T82 l0_1 a1_1).f1)] 82 (0, 0)) (by (with_reducible repeat (first | refine ac_ ?_ _ | refine ae_ ?_ | refine ad_ ?_ _)); exact BK913.out)) : gb913 ≠ gb935))
      have n16_ := ab_ ((by rw [hg]; exact Nat.ne_of_gt (blk_lt (g := gb913) (o := .cells #[.int .i64 ((rd_T82 l0_1 a1_1).f0), .int .i64 ((rd_T82 l0_1 a1_1).f1)] 82 (0, 0)) (by (with_reducible repeat (first | refine ac_ ?_ _ | refine ae_ ?_ | refine ad_ ?_ _)); exact BK913.out)) : gb935 ≠ gb913))
      clear HO933
      clear BK909
      clear BK910
      clear BK911
      clear BK913
      clear HB
      have HO933 := n0_
      have BK909 := n1_
      have BK910 := n2_
      have BK911 := n3_
      have BK913 := n4_
      have HB := n5_
      have BK935 := n6_
      have GW935 := n7_
      have GE935 := n8_
      have NB909_935 := n9_
      have NB935_909 := n10_
      have NB910_935 := n11_
      have NB935_910 := n12_
      have NB911_935 := n13_
      have NB935_911 := n14_
      have NB913_935 := n15_
      have NB935_913 := n16_
      clear n0_ n1_ n2_ n3_ n4_ n5_ n6_ n7_ n8_ n9_ n10_ n11_ n12_ n13_ n14_ n15_ n16_
      clear hb hbox hg
      refine hK.out _ _ ⟨(an_ BK909.out 0).trans rfl, (an_ BK909.out 1).trans rfl, (an_ BK910.out 0).trans rfl, (an_ BK910.out 1).trans rfl, (an_ BK910.out 2).trans rfl, ((HB.out.cell (aa_ w _ hw928_0)).trans hw928_0), ((HB.out.cell (aa_ w _ hw928_1)).trans hw928_1), ((HB.out.cell (aa_ w _ hw928_2)).trans hw928_2)⟩ (fun hHeld => ?_)
      clear hK K
      refine norm_ (a' := ?_) ?_ ?_
      rotate_left
      · show Act.put _ (some 7) _ = _
        simp only [Act.put, List.setIfInBounds_toArray, List.set_cons_zero, List.set_cons_succ, i64_w, i32_w]
        rfl
      exact norm_ (by simp only [putAll, Act.put, List.setIfInBounds_toArray, List.set_cons_zero, List.set_cons_succ]) (hCont (v932, gb935) _ ⟨hHeld, (by (with_reducible repeat (first | apply Kd.N_alloc | apply Kd.N_drewN | apply Kd.N_drew)); exact Kd.N_mono HO933.out (fun _ hk => ⟨hk.1.1, ⟨hk.1.2.1, ⟨hk.1.2.2.1, ⟨hk.1.2.2.2.1, ⟨hk.1.2.2.2.2, hk.2⟩⟩⟩⟩⟩)), (by (with_reducible repeat (first | refine ac_ ?_ _ | refine ae_ ?_ | refine ad_ ?_ _)); exact BK909.out), (by (with_reducible repeat (first | refine ac_ ?_ _ | refine ae_ ?_ | refine ad_ ?_ _)); exact BK910.out), (by (with_reducible repeat (first | refine ac_ ?_ _ | refine ae_ ?_ | refine ad_ ?_ _)); exact BK911.out), (by (with_reducible repeat (first | refine ac_ ?_ _ | refine ae_ ?_ | refine ad_ ?_ _)); exact BK913.out), (by (with_reducible repeat (first | refine ac_ ?_ _ | refine ae_ ?_ | refine ad_ ?_ _)); exact BK935.out), GW935.out, GE935.out, NB909_935.out, NB935_909.out, NB910_935.out, NB935_910.out, NB911_935.out, NB935_911.out, NB913_935.out, NB935_913.out, (by repeat (first | (with_reducible first | exact HB.out | apply ai_ | apply ag_ | apply ah_ | refine af_ ?_ GE909.out | refine af_ ?_ GE910.out | refine af_ ?_ GE911.out | refine af_ ?_ GE913.out | refine af_ ?_ GE935.out) | exact HB.out))⟩)
    · skip
      refine box_step ?hg (N := 7) ?hd (cs := #[.bool false, .int .i64 0, .slice none 0 0]) (t := 93) ?hr ?_; (case hd => rfl); (case hg => rfl); (case hr => first | (go_simp; done) | (go_simp; rfl))
      intro gb935 hg w87 hbox hb
      have n0_ := ab_ (blk_below (g := gb909) (o := .cells #[.int .i64 a0_0, .slice (some ad912) l0_1.length c0_1] 29 (0, 0)) (by (with_reducible repeat (first | refine ac_ ?_ _ | refine ae_ ?_ | refine ad_ ?_ _)); exact BK909.out) hb)
      have n1_ := ab_ (blk_below (g := gb910) (o := .cells #[.bool true, .int .i64 a1_1, .slice (some ad928) l1_2.length c1_2] 93 (0, 0)) (by (with_reducible repeat (first | refine ac_ ?_ _ | refine ae_ ?_ | refine ad_ ?_ _)); exact BK910.out) hb)
      have n2_ := ab_ (blk_below (g := gb911) (o := .cells #[.bool false, .int .i64 0, .slice none 0 0] 93 (0, 0)) (by (with_reducible repeat (first | refine ac_ ?_ _ | refine ae_ ?_ | refine ad_ ?_ _)); exact BK911.out) hb)
      have n3_ := ab_ (blk_below (g := gb913) (o := .cells #[.int .i64 ((rd_T82 l0_1 a1_1).f0), .int .i64 ((rd_T82 l0_1 a1_1).f1)] 82 (0, 0)) (by (with_reducible repeat (first | refine ac_ ?_ _ | refine ae_ ?_ | refine ad_ ?_ _)); exact BK913.out) hb)
      have n4_ := ab_ (au_ (by repeat (first | (with_reducible first | exact HB.out | apply ai_ | apply ag_ | apply ah_ | refine af_ ?_ GE909.out | refine af_ ?_ GE910.out | refine af_ ?_ GE911.out | refine af_ ?_ GE913.out) | exact HB.out)) hb)
      have n5_ := ab_ (hbox)
      have n6_ := ab_ ((by rw [hg]; exact (below_size (by repeat (first | (with_reducible first | exact HB.out | apply ai_ | apply ag_ | apply ah_ | refine af_ ?_ GE909.out | refine af_ ?_ GE910.out | refine af_ ?_ GE911.out | refine af_ ?_ GE913.out) | exact HB.out))) : w.heap.size ≤ gb935))
      have n7_ := ab_ ((by rw [hg]; exact (below_size (by repeat (first | (with_reducible first | exact HB.out | apply ai_ | apply ag_ | apply ah_ | refine af_ ?_ GE909.out | refine af_ ?_ GE910.out | refine af_ ?_ GE911.out | refine af_ ?_ GE913.out) | exact HB.out))) : w.heap.size ≤ gb935))
      have n8_ := ab_ ((by rw [hg]; exact ak_ (blk_lt (g := gb909) (o := .cells #[.int .i64 a0_0, .slice (some ad912) l0_1.length c0_1] 29 (0, 0)) (by (with_reducible repeat (first | refine ac_ ?_ _ | refine ae_ ?_ | refine ad_ ?_ _)); exact BK909.out)) : gb909 ≠ gb935))
      have n9_ := ab_ ((by rw [hg]; exact Nat.ne_of_gt (blk_lt (g := gb909) (o := .cells #[.int .i64 a0_0, .slice (some ad912) l0_1.length c0_1] 29 (0, 0)) (by (with_reducible repeat (first | refine ac_ ?_ _ | refine ae_ ?_ | refine ad_ ?_ _)); exact BK909.out)) : gb935 ≠ gb909))
      have n10_ := ab_ ((by rw [hg]; exact ak_ (blk_lt (g := gb910) (o := .cells #[.bool true, .int .i64 a1_1, .slice (some ad928) l1_2.length c1_2] 93 (0, 0)) (by (with_reducible repeat (first | refine ac_ ?_ _ | refine ae_ ?_ | refine ad_ ?_ _)); exact BK910.out)) : gb910 ≠ gb935))
      have n11_ := ab_ ((by rw [hg]; exact Nat.ne_of_gt (blk_lt (g := gb910) (o := .cells #[.bool true, .int .i64 a1_1, .slice (some ad928) l1_2.length c1_2] 93 (0, 0)) (by (with_reducible repeat (first | refine ac_ ?_ _ | refine ae_ ?_ | refine ad_ ?_ _)); exact BK910.out)) : gb935 ≠ gb910))
      have n12_ := ab_ ((by rw [hg]; exact ak_ (blk_lt (g := gb911) (o := .cells #[.bool false, .int .i64 0, .slice none 0 0] 93 (0, 0)) (by (with_reducible repeat (first | refine ac_ ?_ _ | refine ae_ ?_ | refine ad_ ?_ _)); exact BK911.out)) : gb911 ≠ gb935))
      have n13_ := ab_ ((by rw [hg]; exact Nat.ne_of_gt (blk_lt (g := gb911) (o := .cells #[.bool false, .int .i64 0, .slice none 0 0] 93 (0, 0)) (by (with_reducible repeat (first | refine ac_ ?_ _ | refine ae_ ?_ | refine ad_ ?_ _)); exact BK911.out)) : gb935 ≠ gb911))
      have n14_ := ab_ ((by rw [hg]; exact ak_ (blk_lt (g := gb913) (o := .cells #[.int .i64 ((rd_T82 l0_1 a1_1).f0), .int .i64 ((rd_T82 l0_1 a1_1).f1)] 82 (0, 0)) (by (with_reducible repeat (first | refine ac_ ?_ _ | refine ae_ ?_ | refine ad_ ?_ _)); exact BK913.out)) : gb913 ≠ gb935))
      have n15_ := ab_ ((by rw [hg]; exact Nat.ne_of_gt (blk_lt (g := gb913) (o := .cells #[.int .i64 ((rd_T82 l0_1 a1_1).f0), .int .i64 ((rd_T82 l0_1 a1_1).f1)] 82 (0, 0)) (by (with_reducible repeat (first | refine ac_ ?_ _ | refine ae_ ?_ | refine ad_ ?_ _)); exact BK913.out)) : gb935 ≠ gb913))
      clear BK909
      clear BK910
      clear BK911
      clear BK913
      clear HB
      have BK909 := n0_
      have BK910 := n1_
      have BK911 := n2_
      have BK913 := n3_
      have HB := n4_
      have BK935 := n5_
      have GW935 := n6_
      have GE935 := n7_
      have NB909_935 := n8_
      have NB935_909 := n9_
      have NB910_935 := n10_
      have NB935_910 := n11_
      have NB911_935 := n12_
      have NB935_911 := n13_
      have NB913_935 := n14_
      have NB935_913 := n15_
      clear n0_ n1_ n2_ n3_ n4_ n5_ n6_ n7_ n8_ n9_ n10_ n11_ n12_ n13_ n14_ n15_
      clear hb hbox hg
      refine hK.out _ _ ⟨(an_ BK909.out 0).trans rfl, (an_ BK909.out 1).trans rfl, (an_ BK910.out 0).trans rfl, (an_ BK910.out 1).trans rfl, (an_ BK910.out 2).trans rfl, ((HB.out.cell (aa_ w _ hw928_0)).trans hw928_0), ((HB.out.cell (aa_ w _ hw928_1)).trans hw928_1), ((HB.out.cell (aa_ w _ hw928_2)).trans hw928_2)⟩ (fun hHeld => ?_)
      clear hK K
      refine norm_ (a' := ?_) ?_ ?_
      rotate_left
      · show Act.put _ (some 7) _ = _
        simp only [Act.put, List.setIfInBounds_toArray, List.set_cons_zero, List.set_cons_succ, i64_w, i32_w]
        rfl
      refine one_ (i := 5) (N := some 61) #[true, true, true, true, true, true, false, false, false, true, false, false] rfl rfl (one_of HT_.out (by kernel_rfl)) (by decide) (fun K hK => ?_)
      refine goes_ Try.func87 (by kernel_rfl) rfl #[.agg #[.int .i64 a0_0, .slice (some ad912) l0_1.length c0_1], .agg #[.bool ((rd_T93 l1_2 0).f0), .int .i64 ((rd_T93 l1_2 0).f1), .slice A928_2 ((rd_T93 l1_2 0).f2).length c928_2]] (by rfl) rfl rfl (by (try simp only [List.map_toArray, List.map_cons, List.map_nil]); first | done | rfl | (simp only [List.length_drop, List.length_take]; rfl)) ?_
      with_reducible refine (ih k (by omega) a0_0 _ _ l0_1 ((rd_T93 l1_2 0).f0) ((rd_T93 l1_2 0).f1) _ _ ((rd_T93 l1_2 0).f2) t929 t930 t931 t934 _ ?side1 ?side2 ?side3 ?side4 A68.out).mono ?_
      (case side1 => repeat (first | exact (Kd.C_below HR0_1.out HB.out) | (with_reducible refine ar_ ?_ _) | (with_reducible refine as_ ?_ _) | (with_reducible refine Kd.C_drew ?_)))
      (case side2 => exact HC0_1.out)
      (case side3 => repeat (first | exact (Kd.C_below HR928_2.out HB.out) | (with_reducible refine ar_ ?_ _) | (with_reducible refine as_ ?_ _) | (with_reducible refine Kd.C_drew ?_)))
      (case side4 => exact HC928_2.out)
      rintro e w88 ⟨v932, rfl, ho0, hb⟩
      refine ⟨_, rfl, ?_⟩
      have n0_ := ab_ (Kd.N_lower (Kd.N_mono (ok' := fun k_ => (w.heap.size ≤ k_) ∧ k_ ≠ gb909 ∧ k_ ≠ gb910 ∧ k_ ≠ gb911 ∧ k_ ≠ gb913 ∧ k_ ≠ gb935) ho0 (fun k_ hk_ => ⟨(Nat.le_trans (below_size (by repeat (first | (with_reducible first | exact HB.out | apply ai_ | apply ag_ | apply ah_ | refine af_ ?_ GE909.out | refine af_ ?_ GE910.out | refine af_ ?_ GE911.out | refine af_ ?_ GE913.out | refine af_ ?_ GE935.out) | exact HB.out))) hk_), (Kd.freshB (g := gb909) (o := .cells #[.int .i64 a0_0, .slice (some ad912) l0_1.length c0_1] 29 (0, 0)) (by (with_reducible repeat (first | refine ac_ ?_ _ | refine ae_ ?_ | refine ad_ ?_ _)); exact BK909.out) k_ hk_), (Kd.freshB (g := gb910) (o := .cells #[.bool true, .int .i64 a1_1, .slice (some ad928) l1_2.length c1_2] 93 (0, 0)) (by (with_reducible repeat (first | refine ac_ ?_ _ | refine ae_ ?_ | refine ad_ ?_ _)); exact BK910.out) k_ hk_), (Kd.freshB (g := gb911) (o := .cells #[.bool false, .int .i64 0, .slice none 0 0] 93 (0, 0)) (by (with_reducible repeat (first | refine ac_ ?_ _ | refine ae_ ?_ | refine ad_ ?_ _)); exact BK911.out) k_ hk_), (Kd.freshB (g := gb913) (o := .cells #[.int .i64 ((rd_T82 l0_1 a1_1).f0), .int .i64 ((rd_T82 l0_1 a1_1).f1)] 82 (0, 0)) (by (with_reducible repeat (first | refine ac_ ?_ _ | refine ae_ ?_ | refine ad_ ?_ _)); exact BK913.out) k_ hk_), (Kd.freshB (g := gb935) (o := .cells #[.bool false, .int .i64 0, .slice none 0 0] 93 (0, 0)) (by (with_reducible repeat (first | refine ac_ ?_ _ | refine ae_ ?_ | refine ad_ ?_ _)); exact BK935.out) k_ hk_)⟩)) (below_size (by repeat (first | (with_reducible first | exact HB.out | apply ai_ | apply ag_ | apply ah_ | refine af_ ?_ GE909.out | refine af_ ?_ GE910.out | refine af_ ?_ GE911.out | refine af_ ?_ GE913.out | refine af_ ?_ GE935.out) | exact HB.out))))
      have n1_ := ab_ (blk_below (g := gb909) (o := .cells #[.int .i64 a0_0, .slice (some ad912) l0_1.length c0_1] 29 (0, 0)) (by (with_reducible repeat (first | refine ac_ ?_ _ | refine ae_ ?_ | refine ad_ ?_ _)); exact BK909.out) hb)
      have n2_ := ab_ (blk_below (g := gb910) (o := .cells #[.bool true, .int .i64 a1_1, .slice (some ad928) l1_2.length c1_2] 93 (0, 0)) (by (with_reducible repeat (first | refine ac_ ?_ _ | refine ae_ ?_ | refine ad_ ?_ _)); exact BK910.out) hb)
      have n3_ := ab_ (blk_below (g := gb911) (o := .cells #[.bool false, .int .i64 0, .slice none 0 0] 93 (0, 0)) (by (with_reducible repeat (first | refine ac_ ?_ _ | refine ae_ ?_ | refine ad_ ?_ _)); exact BK911.out) hb)
      have n4_ := ab_ (blk_below (g := gb913) (o := .cells #[.int .i64 ((rd_T82 l0_1 a1_1).f0), .int .i64 ((rd_T82 l0_1 a1_1).f1)] 82 (0, 0)) (by (with_reducible repeat (first | refine ac_ ?_ _ | refine ae_ ?_ | refine ad_ ?_ _)); exact BK913.out) hb)
      have n5_ := ab_ (blk_below (g := gb935) (o := .cells #[.bool false, .int .i64 0, .slice none 0 0] 93 (0, 0)) (by (with_reducible repeat (first | refine ac_ ?_ _ | refine ae_ ?_ | refine ad_ ?_ _)); exact BK935.out) hb)
      have n6_ := ab_ (au_ (by repeat (first | (with_reducible first | exact HB.out | apply ai_ | apply ag_ | apply ah_ | refine af_ ?_ GE909.out | refine af_ ?_ GE910.out | refine af_ ?_ GE911.out | refine af_ ?_ GE913.out | refine af_ ?_ GE935.out) | exact HB.out)) hb)
      clear BK909
      clear BK910
      clear BK911
      clear BK913
      clear BK935
      clear HB
      have HO933 := n0_
      have BK909 := n1_
      have BK910 := n2_
      have BK911 := n3_
      have BK913 := n4_
      have BK935 := n5_
      have HB := n6_
      clear n0_ n1_ n2_ n3_ n4_ n5_ n6_
      (try clear hb)
      (try clear hb2)
      (try clear hk)
      (try clear hi)
      (try clear ho0)
      refine hK.out _ _ ⟨(an_ BK909.out 0).trans rfl, (an_ BK909.out 1).trans rfl, (an_ BK910.out 0).trans rfl, (an_ BK910.out 1).trans rfl, (an_ BK910.out 2).trans rfl, ((HB.out.cell (aa_ w _ hw928_0)).trans hw928_0), ((HB.out.cell (aa_ w _ hw928_1)).trans hw928_1), ((HB.out.cell (aa_ w _ hw928_2)).trans hw928_2)⟩ (fun hHeld => ?_)
      clear hK K
      refine norm_ (a' := ?_) ?_ ?_
      rotate_left
      · show Act.put _ (some 61) _ = _
        simp only [Act.put, List.setIfInBounds_toArray, List.set_cons_zero, List.set_cons_succ, i64_w, i32_w]
        rfl
      refine pure_ (i := 6) (N := some 55) (v := ?_) (a' := ?_) #[true, true, true, true, true, true, true, false, false, true, false, false] rfl rfl (any_of HT_.out (by kernel_rfl)) (fun _ _ _ h => h) (Or.inl ⟨by rfl, ?_⟩) ?_ ?_
      rotate_left
      · intro w'
        go_simp
        with_reducible rfl
      rotate_left
      · simp only [Act.put, List.setIfInBounds_toArray, List.set_cons_zero, List.set_cons_succ, i64_w, i32_w]
        rfl
      refine pure_ (i := 7) (N := some 62) (v := ?_) (a' := ?_) #[true, true, true, true, true, true, true, true, false, true, false, false] rfl rfl (any_of HT_.out (by kernel_rfl)) (fun _ _ _ h => h) (Or.inl ⟨by rfl, ?_⟩) ?_ ?_
      rotate_left
      · intro w'
        go_simp
        with_reducible rfl
      rotate_left
      · simp only [Act.put, List.setIfInBounds_toArray, List.set_cons_zero, List.set_cons_succ, i64_w, i32_w]
        rfl
      refine pure_ (i := 8) (N := some 63) (v := ?_) (a' := ?_) #[true, true, true, true, true, true, true, true, true, true, false, false] rfl rfl (any_of HT_.out (by kernel_rfl)) (fun _ _ _ h => h) (Or.inl ⟨by rfl, ?_⟩) ?_ ?_
      rotate_left
      · intro w'
        go_simp
        with_reducible rfl
      rotate_left
      · simp only [Act.put, List.setIfInBounds_toArray, List.set_cons_zero, List.set_cons_succ, i64_w, i32_w]
        rfl
      exact norm_ (by simp only [putAll, Act.put, List.setIfInBounds_toArray, List.set_cons_zero, List.set_cons_succ]) (hCont (v932, gb935) _ ⟨hHeld, (by (with_reducible repeat (first | apply Kd.N_alloc | apply Kd.N_drewN | apply Kd.N_drew)); exact HO933.out), (by (with_reducible repeat (first | refine ac_ ?_ _ | refine ae_ ?_ | refine ad_ ?_ _)); exact BK909.out), (by (with_reducible repeat (first | refine ac_ ?_ _ | refine ae_ ?_ | refine ad_ ?_ _)); exact BK910.out), (by (with_reducible repeat (first | refine ac_ ?_ _ | refine ae_ ?_ | refine ad_ ?_ _)); exact BK911.out), (by (with_reducible repeat (first | refine ac_ ?_ _ | refine ae_ ?_ | refine ad_ ?_ _)); exact BK913.out), (by (with_reducible repeat (first | refine ac_ ?_ _ | refine ae_ ?_ | refine ad_ ?_ _)); exact BK935.out), GW935.out, GE935.out, NB909_935.out, NB935_909.out, NB910_935.out, NB935_910.out, NB911_935.out, NB935_911.out, NB913_935.out, NB935_913.out, (by repeat (first | (with_reducible first | exact HB.out | apply ai_ | apply ag_ | apply ah_ | refine af_ ?_ GE909.out | refine af_ ?_ GE910.out | refine af_ ?_ GE911.out | refine af_ ?_ GE913.out | refine af_ ?_ GE935.out) | exact HB.out))⟩)
  rintro ⟨v932, gb935⟩ w89 ⟨hS_, h0_, h1_, h2_, h3_, h4_, h5_, h6_, h7_, h8_, h9_, h10_, h11_, h12_, h13_, h14_, h15_, h16_⟩
  have n0_ : Aside0 (Kd.N k93 93 w89 w.heap.size (fun k_ => (w.heap.size ≤ k_) ∧ k_ ≠ gb909 ∧ k_ ≠ gb910 ∧ k_ ≠ gb911 ∧ k_ ≠ gb913 ∧ k_ ≠ gb935) v932 t931) := ⟨h0_⟩
  have n1_ : Aside0 (w89.heap[gb909]? = some (.cells #[.int .i64 a0_0, .slice (some ad912) l0_1.length c0_1] 29 (0, 0))) := ⟨h1_⟩
  have n2_ : Aside0 (w89.heap[gb910]? = some (.cells #[.bool true, .int .i64 a1_1, .slice (some ad928) l1_2.length c1_2] 93 (0, 0))) := ⟨h2_⟩
  have n3_ : Aside0 (w89.heap[gb911]? = some (.cells #[.bool false, .int .i64 0, .slice none 0 0] 93 (0, 0))) := ⟨h3_⟩
  have n4_ : Aside0 (w89.heap[gb913]? = some (.cells #[.int .i64 ((rd_T82 l0_1 a1_1).f0), .int .i64 ((rd_T82 l0_1 a1_1).f1)] 82 (0, 0))) := ⟨h4_⟩
  have n5_ : Aside0 (w89.heap[gb935]? = some (.cells #[.bool false, .int .i64 0, .slice none 0 0] 93 (0, 0))) := ⟨h5_⟩
  have n6_ : Aside0 (w.heap.size ≤ gb935) := ⟨h6_⟩
  have n7_ : Aside0 (w.heap.size ≤ gb935) := ⟨h7_⟩
  have n8_ : Aside0 (gb909 ≠ gb935) := ⟨h8_⟩
  have n9_ : Aside0 (gb935 ≠ gb909) := ⟨h9_⟩
  have n10_ : Aside0 (gb910 ≠ gb935) := ⟨h10_⟩
  have n11_ : Aside0 (gb935 ≠ gb910) := ⟨h11_⟩
  have n12_ : Aside0 (gb911 ≠ gb935) := ⟨h12_⟩
  have n13_ : Aside0 (gb935 ≠ gb911) := ⟨h13_⟩
  have n14_ : Aside0 (gb913 ≠ gb935) := ⟨h14_⟩
  have n15_ : Aside0 (gb935 ≠ gb913) := ⟨h15_⟩
  have n16_ : Aside0 (Below w.heap.size w w89) := ⟨h16_⟩
  clear BK909
  clear BK910
  clear BK911
  clear BK913
  clear HB
  clear h0_ h1_ h2_ h3_ h4_ h5_ h6_ h7_ h8_ h9_ h10_ h11_ h12_ h13_ h14_ h15_ h16_
  have HO933 := n0_
  have BK909 := n1_
  have BK910 := n2_
  have BK911 := n3_
  have BK913 := n4_
  have BK935 := n5_
  have GW935 := n6_
  have GE935 := n7_
  have NB909_935 := n8_
  have NB935_909 := n9_
  have NB910_935 := n10_
  have NB935_910 := n11_
  have NB911_935 := n12_
  have NB935_911 := n13_
  have NB913_935 := n14_
  have NB935_913 := n15_
  have HB := n16_
  clear n0_ n1_ n2_ n3_ n4_ n5_ n6_ n7_ n8_ n9_ n10_ n11_ n12_ n13_ n14_ n15_ n16_
  have hHeld : w89.cell? ⟨gb909, 0, none⟩ = some (.int .i64 a0_0) ∧ w89.cell? ⟨gb909, 1, none⟩ = some (.slice (some ad912) l0_1.length c0_1) ∧ w89.cell? ⟨gb910, 0, none⟩ = some (.bool true) ∧ w89.cell? ⟨gb910, 1, none⟩ = some (.int .i64 a1_1) ∧ w89.cell? ⟨gb910, 2, none⟩ = some (.slice (some ad928) l1_2.length c1_2) ∧ w89.cell? ad928 = some (.bool ((rd_T93 l1_2 0).f0)) ∧ w89.cell? ⟨ad928.block, ad928.off + 1, none⟩ = some (.int .i64 ((rd_T93 l1_2 0).f1)) ∧ w89.cell? ⟨ad928.block, ad928.off + 2, none⟩ = some (.slice A928_2 ((rd_T93 l1_2 0).f2).length c928_2) := hS_
  obtain ⟨Ao92, co92, eo92⟩ := Kd.N_slice HO933.out
  (first | subst eo92 | (injection eo92 with f1_ f2_ f3_; have f4_ := f1_.symm; have f5_ := f3_.symm; clear f1_ f2_ f3_; subst f4_; subst f5_))
  refine norm_ (a' := ?_) ?_ ?_
  rotate_left
  · simp only [putAll, Act.put, List.setIfInBounds_toArray, List.set_cons_zero, List.set_cons_succ]
    rfl
  refine one_ (i := 10) (N := none) #[true, true, true, true, true, true, true, true, true, true, true, false] rfl rfl (one_of HT_.out (by kernel_rfl)) (by decide) (fun K hK => ?_)
  have hs90 : w89.cell? ⟨gb935, 0, none⟩ = some (.bool false) := (an_ BK935.out 0).trans rfl
  have hfs90 := am_ BK935.out 0
  have hns90_0 := NB909_935.out
  have hns90_1 := NB910_935.out
  have hns90_2 := NB911_935.out
  have hns90_3 := NB913_935.out
  have hms90_0 := NB935_909.out
  have hms90_1 := NB935_910.out
  have hms90_2 := NB935_911.out
  have hms90_3 := NB935_913.out
  have hs91 : w89.cell? ⟨gb935, 1, none⟩ = some (.int .i64 0) := (an_ BK935.out 1).trans rfl
  have hfs91 := am_ BK935.out 1
  have hns91_0 := NB909_935.out
  have hns91_1 := NB910_935.out
  have hns91_2 := NB911_935.out
  have hns91_3 := NB913_935.out
  have hms91_0 := NB935_909.out
  have hms91_1 := NB935_910.out
  have hms91_2 := NB935_911.out
  have hms91_3 := NB935_913.out
  have hs93 : w89.cell? ⟨gb935, 2, none⟩ = some (.slice none 0 0) := (an_ BK935.out 2).trans rfl
  have hfs93 := am_ BK935.out 2
  have hns93_0 := NB909_935.out
  have hns93_1 := NB910_935.out
  have hns93_2 := NB911_935.out
  have hns93_3 := NB913_935.out
  have hms93_0 := NB935_909.out
  have hms93_1 := NB935_910.out
  have hms93_2 := NB935_911.out
  have hms93_3 := NB935_913.out
  refine skip_ (w1 := ?_) (by rfl) rfl ?_ ?_
  rotate_left
  · go_simp
    rfl
  refine hK.out _ _ ⟨((cw_ (p := ⟨gb935, _, none⟩) NB909_935.out _).trans (((cw_ (p := ⟨gb935, _, none⟩) NB909_935.out _).trans (((cw_ (p := ⟨gb935, _, none⟩) NB909_935.out _).trans (hHeld.1)))))), ((cw_ (p := ⟨gb935, _, none⟩) NB909_935.out _).trans (((cw_ (p := ⟨gb935, _, none⟩) NB909_935.out _).trans (((cw_ (p := ⟨gb935, _, none⟩) NB909_935.out _).trans (hHeld.2.1)))))), ((cw_ (p := ⟨gb935, _, none⟩) NB910_935.out _).trans (((cw_ (p := ⟨gb935, _, none⟩) NB910_935.out _).trans (((cw_ (p := ⟨gb935, _, none⟩) NB910_935.out _).trans (hHeld.2.2.1)))))), ((cw_ (p := ⟨gb935, _, none⟩) NB910_935.out _).trans (((cw_ (p := ⟨gb935, _, none⟩) NB910_935.out _).trans (((cw_ (p := ⟨gb935, _, none⟩) NB910_935.out _).trans (hHeld.2.2.2.1)))))), ((cw_ (p := ⟨gb935, _, none⟩) NB910_935.out _).trans (((cw_ (p := ⟨gb935, _, none⟩) NB910_935.out _).trans (((cw_ (p := ⟨gb935, _, none⟩) NB910_935.out _).trans (hHeld.2.2.2.2.1)))))), ((cw_ (p := ⟨gb935, _, none⟩) (by first | exact ak_ (aj_ (by have := aa_ _ _ hw928_0; first | rwa [al_] at this | exact this) GW935.out) | (rw [al_]; exact ak_ (aj_ (by have := aa_ _ _ hw928_0; first | rwa [al_] at this | exact this) GW935.out)) | (show (Addr.add _ _).block ≠ _; rw [al_]; exact ak_ (aj_ (by have := aa_ _ _ hw928_0; first | rwa [al_] at this | exact this) GW935.out)) | (dsimp only; exact ak_ (aj_ (by have := aa_ _ _ hw928_0; first | rwa [al_] at this | exact this) GW935.out))) _).trans (((cw_ (p := ⟨gb935, _, none⟩) (by first | exact ak_ (aj_ (by have := aa_ _ _ hw928_0; first | rwa [al_] at this | exact this) GW935.out) | (rw [al_]; exact ak_ (aj_ (by have := aa_ _ _ hw928_0; first | rwa [al_] at this | exact this) GW935.out)) | (show (Addr.add _ _).block ≠ _; rw [al_]; exact ak_ (aj_ (by have := aa_ _ _ hw928_0; first | rwa [al_] at this | exact this) GW935.out)) | (dsimp only; exact ak_ (aj_ (by have := aa_ _ _ hw928_0; first | rwa [al_] at this | exact this) GW935.out))) _).trans (((cw_ (p := ⟨gb935, _, none⟩) (by first | exact ak_ (aj_ (by have := aa_ _ _ hw928_0; first | rwa [al_] at this | exact this) GW935.out) | (rw [al_]; exact ak_ (aj_ (by have := aa_ _ _ hw928_0; first | rwa [al_] at this | exact this) GW935.out)) | (show (Addr.add _ _).block ≠ _; rw [al_]; exact ak_ (aj_ (by have := aa_ _ _ hw928_0; first | rwa [al_] at this | exact this) GW935.out)) | (dsimp only; exact ak_ (aj_ (by have := aa_ _ _ hw928_0; first | rwa [al_] at this | exact this) GW935.out))) _).trans (hHeld.2.2.2.2.2.1)))))), ((cw_ (p := ⟨gb935, _, none⟩) (by first | exact ak_ (aj_ (by have := aa_ _ _ hw928_1; first | rwa [al_] at this | exact this) GW935.out) | (rw [al_]; exact ak_ (aj_ (by have := aa_ _ _ hw928_1; first | rwa [al_] at this | exact this) GW935.out)) | (show (Addr.add _ _).block ≠ _; rw [al_]; exact ak_ (aj_ (by have := aa_ _ _ hw928_1; first | rwa [al_] at this | exact this) GW935.out)) | (dsimp only; exact ak_ (aj_ (by have := aa_ _ _ hw928_1; first | rwa [al_] at this | exact this) GW935.out))) _).trans (((cw_ (p := ⟨gb935, _, none⟩) (by first | exact ak_ (aj_ (by have := aa_ _ _ hw928_1; first | rwa [al_] at this | exact this) GW935.out) | (rw [al_]; exact ak_ (aj_ (by have := aa_ _ _ hw928_1; first | rwa [al_] at this | exact this) GW935.out)) | (show (Addr.add _ _).block ≠ _; rw [al_]; exact ak_ (aj_ (by have := aa_ _ _ hw928_1; first | rwa [al_] at this | exact this) GW935.out)) | (dsimp only; exact ak_ (aj_ (by have := aa_ _ _ hw928_1; first | rwa [al_] at this | exact this) GW935.out))) _).trans (((cw_ (p := ⟨gb935, _, none⟩) (by first | exact ak_ (aj_ (by have := aa_ _ _ hw928_1; first | rwa [al_] at this | exact this) GW935.out) | (rw [al_]; exact ak_ (aj_ (by have := aa_ _ _ hw928_1; first | rwa [al_] at this | exact this) GW935.out)) | (show (Addr.add _ _).block ≠ _; rw [al_]; exact ak_ (aj_ (by have := aa_ _ _ hw928_1; first | rwa [al_] at this | exact this) GW935.out)) | (dsimp only; exact ak_ (aj_ (by have := aa_ _ _ hw928_1; first | rwa [al_] at this | exact this) GW935.out))) _).trans (hHeld.2.2.2.2.2.2.1)))))), ((cw_ (p := ⟨gb935, _, none⟩) (by first | exact ak_ (aj_ (by have := aa_ _ _ hw928_2; first | rwa [al_] at this | exact this) GW935.out) | (rw [al_]; exact ak_ (aj_ (by have := aa_ _ _ hw928_2; first | rwa [al_] at this | exact this) GW935.out)) | (show (Addr.add _ _).block ≠ _; rw [al_]; exact ak_ (aj_ (by have := aa_ _ _ hw928_2; first | rwa [al_] at this | exact this) GW935.out)) | (dsimp only; exact ak_ (aj_ (by have := aa_ _ _ hw928_2; first | rwa [al_] at this | exact this) GW935.out))) _).trans (((cw_ (p := ⟨gb935, _, none⟩) (by first | exact ak_ (aj_ (by have := aa_ _ _ hw928_2; first | rwa [al_] at this | exact this) GW935.out) | (rw [al_]; exact ak_ (aj_ (by have := aa_ _ _ hw928_2; first | rwa [al_] at this | exact this) GW935.out)) | (show (Addr.add _ _).block ≠ _; rw [al_]; exact ak_ (aj_ (by have := aa_ _ _ hw928_2; first | rwa [al_] at this | exact this) GW935.out)) | (dsimp only; exact ak_ (aj_ (by have := aa_ _ _ hw928_2; first | rwa [al_] at this | exact this) GW935.out))) _).trans (((cw_ (p := ⟨gb935, _, none⟩) (by first | exact ak_ (aj_ (by have := aa_ _ _ hw928_2; first | rwa [al_] at this | exact this) GW935.out) | (rw [al_]; exact ak_ (aj_ (by have := aa_ _ _ hw928_2; first | rwa [al_] at this | exact this) GW935.out)) | (show (Addr.add _ _).block ≠ _; rw [al_]; exact ak_ (aj_ (by have := aa_ _ _ hw928_2; first | rwa [al_] at this | exact this) GW935.out)) | (dsimp only; exact ak_ (aj_ (by have := aa_ _ _ hw928_2; first | rwa [al_] at this | exact this) GW935.out))) _).trans (hHeld.2.2.2.2.2.2.2))))))⟩ (fun hHeld => ?_)
  clear hK K
  refine pure_ (i := 11) (N := some 8) (v := ?_) (a' := ?_) #[true, true, true, true, true, true, true, true, true, true, true, true] rfl rfl (any_of HT_.out (by kernel_rfl)) (fun _ _ _ h => h) (Or.inl ⟨by rfl, ?_⟩) ?_ ?_
  rotate_left
  · intro w'
    go_simp
    with_reducible rfl
  rotate_left
  · simp only [Act.put, List.setIfInBounds_toArray, List.set_cons_zero, List.set_cons_succ, i64_w, i32_w]
    rfl
  refine done_ (done_of HT_.out (by kernel_rfl)) ?_
  try go_wp2
  have n0_ : Aside0 (Kd.N k93 93 (((w89.setCell ⟨gb935, 0, none⟩ (.bool t929)).setCell ⟨gb935, 1, none⟩ (.int .i64 t930)).setCell ⟨gb935, 2, none⟩ (.slice Ao92 t931.length co92)) w.heap.size (fun k_ => (w.heap.size ≤ k_) ∧ k_ ≠ gb909 ∧ k_ ≠ gb910 ∧ k_ ≠ gb911 ∧ k_ ≠ gb913 ∧ k_ ≠ gb935) (.slice Ao92 t931.length co92) t931) := ⟨by (with_reducible repeat (first | apply Kd.N_alloc | apply Kd.N_drewN | apply Kd.N_drew)); exact Kd.N_mono (Kd.N_far (p := ⟨gb935, 2, none⟩) (Kd.N_far (p := ⟨gb935, 1, none⟩) (Kd.N_far (p := ⟨gb935, 0, none⟩) (Kd.N_mono HO933.out (fun k_ hk => (⟨hk, hk.2.2.2.2.2⟩ : _ ∧ k_ ≠ gb935))) (fun _ hk => hk.2) (.bool t929)) (fun _ hk => hk.2) (.int .i64 t930)) (fun _ hk => hk.2) (.slice Ao92 t931.length co92)) (fun _ hk => ⟨hk.1.1, ⟨hk.1.2.1, ⟨hk.1.2.2.1, ⟨hk.1.2.2.2.1, ⟨hk.1.2.2.2.2.1, hk.1.2.2.2.2.2⟩⟩⟩⟩⟩)⟩
  have n1_ : Aside0 ((((w89.setCell ⟨gb935, 0, none⟩ (.bool t929)).setCell ⟨gb935, 1, none⟩ (.int .i64 t930)).setCell ⟨gb935, 2, none⟩ (.slice Ao92 t931.length co92)).heap[gb909]? = some (.cells #[.int .i64 a0_0, .slice (some ad912) l0_1.length c0_1] 29 (0, 0))) := ⟨by (with_reducible repeat (first | refine ac_ ?_ _ | refine ae_ ?_ | refine ad_ ?_ _)); refine blk_far ?_ NB909_935.out _; (with_reducible repeat (first | refine ac_ ?_ _ | refine ae_ ?_ | refine ad_ ?_ _)); refine blk_far ?_ NB909_935.out _; (with_reducible repeat (first | refine ac_ ?_ _ | refine ae_ ?_ | refine ad_ ?_ _)); refine blk_far ?_ NB909_935.out _; (with_reducible repeat (first | refine ac_ ?_ _ | refine ae_ ?_ | refine ad_ ?_ _)); exact BK909.out⟩
  have n2_ : Aside0 ((((w89.setCell ⟨gb935, 0, none⟩ (.bool t929)).setCell ⟨gb935, 1, none⟩ (.int .i64 t930)).setCell ⟨gb935, 2, none⟩ (.slice Ao92 t931.length co92)).heap[gb910]? = some (.cells #[.bool true, .int .i64 a1_1, .slice (some ad928) l1_2.length c1_2] 93 (0, 0))) := ⟨by (with_reducible repeat (first | refine ac_ ?_ _ | refine ae_ ?_ | refine ad_ ?_ _)); refine blk_far ?_ NB910_935.out _; (with_reducible repeat (first | refine ac_ ?_ _ | refine ae_ ?_ | refine ad_ ?_ _)); refine blk_far ?_ NB910_935.out _; (with_reducible repeat (first | refine ac_ ?_ _ | refine ae_ ?_ | refine ad_ ?_ _)); refine blk_far ?_ NB910_935.out _; (with_reducible repeat (first | refine ac_ ?_ _ | refine ae_ ?_ | refine ad_ ?_ _)); exact BK910.out⟩
  have n3_ : Aside0 ((((w89.setCell ⟨gb935, 0, none⟩ (.bool t929)).setCell ⟨gb935, 1, none⟩ (.int .i64 t930)).setCell ⟨gb935, 2, none⟩ (.slice Ao92 t931.length co92)).heap[gb911]? = some (.cells #[.bool false, .int .i64 0, .slice none 0 0] 93 (0, 0))) := ⟨by (with_reducible repeat (first | refine ac_ ?_ _ | refine ae_ ?_ | refine ad_ ?_ _)); refine blk_far ?_ NB911_935.out _; (with_reducible repeat (first | refine ac_ ?_ _ | refine ae_ ?_ | refine ad_ ?_ _)); refine blk_far ?_ NB911_935.out _; (with_reducible repeat (first | refine ac_ ?_ _ | refine ae_ ?_ | refine ad_ ?_ _)); refine blk_far ?_ NB911_935.out _; (with_reducible repeat (first | refine ac_ ?_ _ | refine ae_ ?_ | refine ad_ ?_ _)); exact BK911.out⟩
  have n4_ : Aside0 ((((w89.setCell ⟨gb935, 0, none⟩ (.bool t929)).setCell ⟨gb935, 1, none⟩ (.int .i64 t930)).setCell ⟨gb935, 2, none⟩ (.slice Ao92 t931.length co92)).heap[gb913]? = some (.cells #[.int .i64 ((rd_T82 l0_1 a1_1).f0), .int .i64 ((rd_T82 l0_1 a1_1).f1)] 82 (0, 0))) := ⟨by (with_reducible repeat (first | refine ac_ ?_ _ | refine ae_ ?_ | refine ad_ ?_ _)); refine blk_far ?_ NB913_935.out _; (with_reducible repeat (first | refine ac_ ?_ _ | refine ae_ ?_ | refine ad_ ?_ _)); refine blk_far ?_ NB913_935.out _; (with_reducible repeat (first | refine ac_ ?_ _ | refine ae_ ?_ | refine ad_ ?_ _)); refine blk_far ?_ NB913_935.out _; (with_reducible repeat (first | refine ac_ ?_ _ | refine ae_ ?_ | refine ad_ ?_ _)); exact BK913.out⟩
  have n5_ : Aside0 ((((w89.setCell ⟨gb935, 0, none⟩ (.bool t929)).setCell ⟨gb935, 1, none⟩ (.int .i64 t930)).setCell ⟨gb935, 2, none⟩ (.slice Ao92 t931.length co92)).heap[gb935]? = some (.cells #[.bool t929, .int .i64 t930, .slice Ao92 t931.length co92] 93 (0, 0))) := ⟨by (with_reducible repeat (first | refine ac_ ?_ _ | refine ae_ ?_ | refine ad_ ?_ _)); refine blk_put (cs := #[.bool t929, .int .i64 t930, .slice none 0 0]) ?_ 2 _ rfl; (with_reducible repeat (first | refine ac_ ?_ _ | refine ae_ ?_ | refine ad_ ?_ _)); refine blk_put (cs := #[.bool t929, .int .i64 0, .slice none 0 0]) ?_ 1 _ rfl; (with_reducible repeat (first | refine ac_ ?_ _ | refine ae_ ?_ | refine ad_ ?_ _)); refine blk_put (cs := #[.bool false, .int .i64 0, .slice none 0 0]) ?_ 0 _ rfl; (with_reducible repeat (first | refine ac_ ?_ _ | refine ae_ ?_ | refine ad_ ?_ _)); exact BK935.out⟩
  have n6_ : Aside0 (Below w.heap.size w (((w89.setCell ⟨gb935, 0, none⟩ (.bool t929)).setCell ⟨gb935, 1, none⟩ (.int .i64 t930)).setCell ⟨gb935, 2, none⟩ (.slice Ao92 t931.length co92))) := ⟨by repeat (first | (with_reducible first | exact HB.out | apply ai_ | apply ag_ | apply ah_ | refine af_ ?_ GE909.out | refine af_ ?_ GE910.out | refine af_ ?_ GE911.out | refine af_ ?_ GE913.out | refine af_ ?_ GE935.out) | exact HB.out)⟩
  (try clear HO933)
  (try clear BK909)
  (try clear BK910)
  (try clear BK911)
  (try clear BK913)
  (try clear BK935)
  (try clear HB)
  generalize (((w89.setCell ⟨gb935, 0, none⟩ (.bool t929)).setCell ⟨gb935, 1, none⟩ (.int .i64 t930)).setCell ⟨gb935, 2, none⟩ (.slice Ao92 t931.length co92)) = w94 at n0_ n1_ n2_ n3_ n4_ n5_ n6_ ⊢
  have HO933 := n0_
  have BK909 := n1_
  have BK910 := n2_
  have BK911 := n3_
  have BK913 := n4_
  have BK935 := n5_
  have HB := n6_
  clear n0_ n1_ n2_ n3_ n4_ n5_ n6_
  have n0_ := ab_ (Kd.N_drew HO933.out)
  have n1_ := ab_ (ae_ BK909.out)
  have n2_ := ab_ (ae_ BK910.out)
  have n3_ := ab_ (ae_ BK911.out)
  have n4_ := ab_ (ae_ BK913.out)
  have n5_ := ab_ (ae_ BK935.out)
  have n6_ := ab_ (ah_ HB.out)
  clear HO933
  clear BK909
  clear BK910
  clear BK911
  clear BK913
  clear BK935
  clear HB
  have HO933 := n0_
  have BK909 := n1_
  have BK910 := n2_
  have BK911 := n3_
  have BK913 := n4_
  have BK935 := n5_
  have HB := n6_
  clear n0_ n1_ n2_ n3_ n4_ n5_ n6_
  have p936 : 0 ≤ (1 : Int) := (by omega)
  have q936 : 1 < (l1_2.length : Int) := of_decide_eq_true (by first | (with_reducible assumption) | assumption)
  obtain ⟨ad936, A936_2, c936_2, e936, hx936_0, hx936_1, hx936_2, hl936_2, hi936_2⟩ := at_T93 HR1_2.out 1 p936 q936
  have hw936_2 := hx936_2
  (try rw [show ((1 : Int)).toNat = 1 from rfl] at hw936_2)
  (try rw [show 1 * 3 = 3 from rfl] at hw936_2)
  (try simp only [Nat.reduceMul, Nat.reduceEqDiff, Go.Addr.add, ↓reduceIte] at hw936_2)
  have hw936_1 := hx936_1
  (try rw [show ((1 : Int)).toNat = 1 from rfl] at hw936_1)
  (try rw [show 1 * 3 = 3 from rfl] at hw936_1)
  (try simp only [Nat.reduceMul, Nat.reduceEqDiff, Go.Addr.add, ↓reduceIte] at hw936_1)
  have hw936_0 := hx936_0
  (try rw [show ((1 : Int)).toNat = 1 from rfl] at hw936_0)
  (try rw [show 1 * 3 = 3 from rfl] at hw936_0)
  (try simp only [Nat.reduceMul, Nat.reduceEqDiff, Go.Addr.add, ↓reduceIte] at hw936_0)
  obtain rfl : ad928 = ad936 := (by injection e936)
  (try simp only [show (1 : Int).toNat = 1 from rfl, Nat.reduceMul, Nat.reduceEqDiff, Go.Addr.add, ↓reduceIte] at hx936_0)
  (try simp only [show (1 : Int).toNat = 1 from rfl, Nat.reduceMul, Nat.reduceEqDiff, Go.Addr.add, ↓reduceIte] at hx936_1)
  (try simp only [show (1 : Int).toNat = 1 from rfl, Nat.reduceMul, Nat.reduceEqDiff, Go.Addr.add, ↓reduceIte] at hx936_2)
  have qi936 : (1 < l1_2.length) = True := eq_true (by omega)
  (try rw [show ((1 : Int)).toNat = 1 from rfl] at hx936_0)
  (try rw [show 1 * 3 = 3 from rfl] at hx936_0)
  (try rw [show ((1 : Int)).toNat = 1 from rfl] at hx936_1)
  (try rw [show 1 * 3 = 3 from rfl] at hx936_1)
  (try rw [show ((1 : Int)).toNat = 1 from rfl] at hx936_2)
  (try rw [show 1 * 3 = 3 from rfl] at hx936_2)
  replace hx936_0 := (HB.out.cell (aa_ w _ hx936_0)).trans hx936_0
  replace hx936_1 := (HB.out.cell (aa_ w _ hx936_1)).trans hx936_1
  replace hx936_2 := (HB.out.cell (aa_ w _ hx936_2)).trans hx936_2
  have HR936_2 := ab_ hi936_2
  have HC936_2 := ab_ hl936_2
  clear hi936_2 hl936_2
  replace p936 := eq_true p936
  replace q936 := eq_true q936
  refine start_ (n := 12) (S := fun w' => w'.cell? ⟨gb909, 0, none⟩ = some (.int .i64 a0_0) ∧ w'.cell? ⟨gb909, 1, none⟩ = some (.slice (some ad912) l0_1.length c0_1) ∧ w'.cell? ⟨gb910, 0, none⟩ = some (.bool true) ∧ w'.cell? ⟨gb910, 1, none⟩ = some (.int .i64 a1_1) ∧ w'.cell? ⟨gb910, 2, none⟩ = some (.slice (some ad928) l1_2.length c1_2) ∧ w'.cell? ⟨ad928.block, ad928.off + 3, none⟩ = some (.bool ((rd_T93 l1_2 1).f0)) ∧ w'.cell? ⟨ad928.block, ad928.off + 3 + 1, none⟩ = some (.int .i64 ((rd_T93 l1_2 1).f1)) ∧ w'.cell? ⟨ad928.block, ad928.off + 3 + 2, none⟩ = some (.slice A936_2 ((rd_T93 l1_2 1).f2).length c936_2)) (ds := []) #[false, false, false, false, false, false, false, false, false, false, false, false] (by kernel_rfl) rfl rfl ⟨(an_ BK909.out 0).trans rfl, (an_ BK909.out 1).trans rfl, (an_ BK910.out 0).trans rfl, (an_ BK910.out 1).trans rfl, (an_ BK910.out 2).trans rfl, ((HB.out.cell (aa_ w _ hw936_0)).trans hw936_0), ((HB.out.cell (aa_ w _ hw936_1)).trans hw936_1), ((HB.out.cell (aa_ w _ hw936_2)).trans hw936_2)⟩ (fun hHeld => ?_); refine with_tabW spec_l9Handle.tab12 spec_l9Handle.bits12 (fun HT_ HW_ => ?_)
  generalize w94.drew = w95 at HO933 BK909 BK910 BK911 BK913 BK935 HB HR936_2 hx936_0 hx936_1 hx936_2 hHeld ⊢
  refine pure_ (i := 1) (N := some 66) (v := ?_) (a' := ?_) #[false, true, false, false, false, false, false, false, false, false, false, false] rfl rfl (any_of HT_.out (by kernel_rfl)) (fun _ _ _ h => h) (Or.inl ⟨by rfl, ?_⟩) ?_ ?_
  rotate_left
  · intro w'
    go_simp
    with_reducible rfl
  rotate_left
  · simp only [Act.put, List.setIfInBounds_toArray, List.set_cons_zero, List.set_cons_succ, i64_w, i32_w]
    rfl
  refine take_ (i := 0) (N := some 65) (v := ?_) (a' := ?_) #[true, true, false, false, false, false, false, false, false, false, false, false] rfl rfl (take_ofW HT_.out HW_.out (by kernel_rfl)) (fun _ _ _ h => h) (Or.inl ⟨by rfl, ?_⟩) hHeld ?_ ?_
  rotate_left
  · rintro w' ⟨s0, s1, s2, s3, s4, s5, s6, s7⟩
    go_simp
    with_reducible rfl
  rotate_left
  · simp only [Act.put, List.setIfInBounds_toArray, List.set_cons_zero, List.set_cons_succ, i64_w, i32_w]
    rfl
  refine take_ (i := 2) (N := some 67) (v := ?_) (a' := ?_) #[true, true, true, false, false, false, false, false, false, false, false, false] rfl rfl (take_ofW HT_.out HW_.out (by kernel_rfl)) (fun _ _ _ h => h) (Or.inl ⟨by rfl, ?_⟩) hHeld ?_ ?_
  rotate_left
  · rintro w' ⟨s0, s1, s2, s3, s4, s5, s6, s7⟩
    go_simp
    with_reducible rfl
  rotate_left
  · simp only [Act.put, List.setIfInBounds_toArray, List.set_cons_zero, List.set_cons_succ, i64_w, i32_w]
    rfl
  refine pure_ (i := 3) (N := some 68) (v := ?_) (a' := ?_) #[true, true, true, true, false, false, false, false, false, false, false, false] rfl rfl (any_of HT_.out (by kernel_rfl)) (fun _ _ _ h => h) (Or.inl ⟨by rfl, ?_⟩) ?_ ?_
  rotate_left
  · intro w'
    go_simp
    with_reducible rfl
  rotate_left
  · simp only [Act.put, List.setIfInBounds_toArray, List.set_cons_zero, List.set_cons_succ, i64_w, i32_w]
    rfl
  refine take_ (i := 4) (N := some 69) (v := ?_) (a' := ?_) #[true, true, true, true, true, false, false, false, false, false, false, false] rfl rfl (take_ofW HT_.out HW_.out (by kernel_rfl)) (fun _ _ _ h => h) (Or.inl ⟨by rfl, ?_⟩) hHeld ?_ ?_
  rotate_left
  · rintro w' ⟨s0, s1, s2, s3, s4, s5, s6, s7⟩
    go_simp
    with_reducible rfl
  rotate_left
  · simp only [Act.put, List.setIfInBounds_toArray, List.set_cons_zero, List.set_cons_succ, i64_w, i32_w]
    rfl
  refine join_ (σ := Value × Nat) 2 #[true, true, true, true, true, true, true, true, true, true, false, false] (fun s_ => [(70, .tuple #[.agg #[.bool t937, .int .i64 t938, s_.1], .bool t942]), (9, .pointer (some ⟨s_.2, 0, none⟩)), (64, .tuple #[.agg #[.bool t937, .int .i64 t938, s_.1], .bool t942]), (71, .agg #[.bool t937, .int .i64 t938, s_.1]), (72, .bool t942)]) (fun s_ w' => (w'.cell? ⟨gb909, 0, none⟩ = some (.int .i64 a0_0) ∧ w'.cell? ⟨gb909, 1, none⟩ = some (.slice (some ad912) l0_1.length c0_1) ∧ w'.cell? ⟨gb910, 0, none⟩ = some (.bool true) ∧ w'.cell? ⟨gb910, 1, none⟩ = some (.int .i64 a1_1) ∧ w'.cell? ⟨gb910, 2, none⟩ = some (.slice (some ad928) l1_2.length c1_2) ∧ w'.cell? ⟨ad928.block, ad928.off + 3, none⟩ = some (.bool ((rd_T93 l1_2 1).f0)) ∧ w'.cell? ⟨ad928.block, ad928.off + 3 + 1, none⟩ = some (.int .i64 ((rd_T93 l1_2 1).f1)) ∧ w'.cell? ⟨ad928.block, ad928.off + 3 + 2, none⟩ = some (.slice A936_2 ((rd_T93 l1_2 1).f2).length c936_2)) ∧ (Kd.N k93 93 w' w.heap.size (fun k_ => (w.heap.size ≤ k_) ∧ some k_ ≠ (s_.1 : Value).ownBlock ∧ k_ ≠ gb909 ∧ k_ ≠ gb910 ∧ k_ ≠ gb911 ∧ k_ ≠ gb913 ∧ k_ ≠ gb935 ∧ k_ ≠ s_.2) (.slice Ao92 t931.length co92) t931) ∧ (Kd.N k93 93 w' w.heap.size (fun k_ => (w.heap.size ≤ k_) ∧ some k_ ≠ (.slice Ao92 t931.length co92 : Value).ownBlock ∧ k_ ≠ gb909 ∧ k_ ≠ gb910 ∧ k_ ≠ gb911 ∧ k_ ≠ gb913 ∧ k_ ≠ gb935 ∧ k_ ≠ s_.2) s_.1 t939) ∧ (w'.heap[gb909]? = some (.cells #[.int .i64 a0_0, .slice (some ad912) l0_1.length c0_1] 29 (0, 0))) ∧ (w'.heap[gb910]? = some (.cells #[.bool true, .int .i64 a1_1, .slice (some ad928) l1_2.length c1_2] 93 (0, 0))) ∧ (w'.heap[gb911]? = some (.cells #[.bool false, .int .i64 0, .slice none 0 0] 93 (0, 0))) ∧ (w'.heap[gb913]? = some (.cells #[.int .i64 ((rd_T82 l0_1 a1_1).f0), .int .i64 ((rd_T82 l0_1 a1_1).f1)] 82 (0, 0))) ∧ (w'.heap[gb935]? = some (.cells #[.bool t929, .int .i64 t930, .slice Ao92 t931.length co92] 93 (0, 0))) ∧ (w'.heap[s_.2]? = some (.cells #[.bool false, .int .i64 0, .slice none 0 0] 93 (0, 0))) ∧ (w.heap.size ≤ s_.2) ∧ (w.heap.size ≤ s_.2) ∧ (gb909 ≠ s_.2) ∧ (s_.2 ≠ gb909) ∧ (gb910 ≠ s_.2) ∧ (s_.2 ≠ gb910) ∧ (gb911 ≠ s_.2) ∧ (s_.2 ≠ gb911) ∧ (gb913 ≠ s_.2) ∧ (s_.2 ≠ gb913) ∧ (gb935 ≠ s_.2) ∧ (s_.2 ≠ gb935) ∧ (Below w.heap.size w w')) ?_ ?_
  rotate_left
  · intro hCont
    refine two_ (i := 5) (j := 9) (Ni := some 70) (Nj := some 9) #[true, true, true, true, true, true, false, false, false, false, false, false] #[true, true, true, true, true, false, false, false, false, true, false, false] rfl rfl rfl rfl (two_of HT_.out (by kernel_rfl)) (by decide) (by decide) (fun K hK => ?_) (fun K hK => ?_)
    · skip
      refine goes_ Try.func87 (by kernel_rfl) rfl #[.agg #[.int .i64 a0_0, .slice (some ad912) l0_1.length c0_1], .agg #[.bool ((rd_T93 l1_2 1).f0), .int .i64 ((rd_T93 l1_2 1).f1), .slice A936_2 ((rd_T93 l1_2 1).f2).length c936_2]] (by rfl) rfl rfl (by (try simp only [List.map_toArray, List.map_cons, List.map_nil]); first | done | rfl | (simp only [List.length_drop, List.length_take]; rfl)) ?_
      with_reducible refine (ih k (by omega) a0_0 _ _ l0_1 ((rd_T93 l1_2 1).f0) ((rd_T93 l1_2 1).f1) _ _ ((rd_T93 l1_2 1).f2) t937 t938 t939 t942 _ ?side1 ?side2 ?side3 ?side4 A70.out).mono ?_
      (case side1 => repeat (first | exact (Kd.C_below HR0_1.out HB.out) | (with_reducible refine ar_ ?_ _) | (with_reducible refine as_ ?_ _) | (with_reducible refine Kd.C_drew ?_)))
      (case side2 => exact HC0_1.out)
      (case side3 => repeat (first | exact (Kd.C_below HR936_2.out HB.out) | (with_reducible refine ar_ ?_ _) | (with_reducible refine as_ ?_ _) | (with_reducible refine Kd.C_drew ?_)))
      (case side4 => exact HC936_2.out)
      rintro e w96 ⟨v940, rfl, ho0, hb⟩
      refine ⟨_, rfl, ?_⟩
      have n0_ := ab_ (Kd.N_elder' (by (with_reducible repeat (first | apply Kd.N_alloc | apply Kd.N_drewN | apply Kd.N_drew)); exact HO933.out) (Kd.N_base ho0) hb)
      have n1_ := ab_ (Kd.N_lower (Kd.N_mono (ok' := fun k_ => (w.heap.size ≤ k_) ∧ some k_ ≠ (.slice Ao92 t931.length co92 : Value).ownBlock ∧ k_ ≠ gb909 ∧ k_ ≠ gb910 ∧ k_ ≠ gb911 ∧ k_ ≠ gb913 ∧ k_ ≠ gb935) ho0 (fun k_ hk_ => ⟨(Nat.le_trans (below_size (by repeat (first | (with_reducible first | exact HB.out | apply ai_ | apply ag_ | apply ah_ | refine af_ ?_ GE909.out | refine af_ ?_ GE910.out | refine af_ ?_ GE911.out | refine af_ ?_ GE913.out | refine af_ ?_ GE935.out) | exact HB.out))) hk_), (Kd.fresh' (Kd.N_lt (by (with_reducible repeat (first | apply Kd.N_alloc | apply Kd.N_drewN | apply Kd.N_drew)); exact HO933.out)) k_ hk_), (Kd.freshB (g := gb909) (o := .cells #[.int .i64 a0_0, .slice (some ad912) l0_1.length c0_1] 29 (0, 0)) (by (with_reducible repeat (first | refine ac_ ?_ _ | refine ae_ ?_ | refine ad_ ?_ _)); exact BK909.out) k_ hk_), (Kd.freshB (g := gb910) (o := .cells #[.bool true, .int .i64 a1_1, .slice (some ad928) l1_2.length c1_2] 93 (0, 0)) (by (with_reducible repeat (first | refine ac_ ?_ _ | refine ae_ ?_ | refine ad_ ?_ _)); exact BK910.out) k_ hk_), (Kd.freshB (g := gb911) (o := .cells #[.bool false, .int .i64 0, .slice none 0 0] 93 (0, 0)) (by (with_reducible repeat (first | refine ac_ ?_ _ | refine ae_ ?_ | refine ad_ ?_ _)); exact BK911.out) k_ hk_), (Kd.freshB (g := gb913) (o := .cells #[.int .i64 ((rd_T82 l0_1 a1_1).f0), .int .i64 ((rd_T82 l0_1 a1_1).f1)] 82 (0, 0)) (by (with_reducible repeat (first | refine ac_ ?_ _ | refine ae_ ?_ | refine ad_ ?_ _)); exact BK913.out) k_ hk_), (Kd.freshB (g := gb935) (o := .cells #[.bool t929, .int .i64 t930, .slice Ao92 t931.length co92] 93 (0, 0)) (by (with_reducible repeat (first | refine ac_ ?_ _ | refine ae_ ?_ | refine ad_ ?_ _)); exact BK935.out) k_ hk_)⟩)) (below_size (by repeat (first | (with_reducible first | exact HB.out | apply ai_ | apply ag_ | apply ah_ | refine af_ ?_ GE909.out | refine af_ ?_ GE910.out | refine af_ ?_ GE911.out | refine af_ ?_ GE913.out | refine af_ ?_ GE935.out) | exact HB.out))))
      have n2_ := ab_ (blk_below (g := gb909) (o := .cells #[.int .i64 a0_0, .slice (some ad912) l0_1.length c0_1] 29 (0, 0)) (by (with_reducible repeat (first | refine ac_ ?_ _ | refine ae_ ?_ | refine ad_ ?_ _)); exact BK909.out) hb)
      have n3_ := ab_ (blk_below (g := gb910) (o := .cells #[.bool true, .int .i64 a1_1, .slice (some ad928) l1_2.length c1_2] 93 (0, 0)) (by (with_reducible repeat (first | refine ac_ ?_ _ | refine ae_ ?_ | refine ad_ ?_ _)); exact BK910.out) hb)
      have n4_ := ab_ (blk_below (g := gb911) (o := .cells #[.bool false, .int .i64 0, .slice none 0 0] 93 (0, 0)) (by (with_reducible repeat (first | refine ac_ ?_ _ | refine ae_ ?_ | refine ad_ ?_ _)); exact BK911.out) hb)
      have n5_ := ab_ (blk_below (g := gb913) (o := .cells #[.int .i64 ((rd_T82 l0_1 a1_1).f0), .int .i64 ((rd_T82 l0_1 a1_1).f1)] 82 (0, 0)) (by (with_reducible repeat (first | refine ac_ ?_ _ | refine ae_ ?_ | refine ad_ ?_ _)); exact BK913.out) hb)
      have n6_ := ab_ (blk_below (g := gb935) (o := .cells #[.bool t929, .int .i64 t930, .slice Ao92 t931.length co92] 93 (0, 0)) (by (with_reducible repeat (first | refine ac_ ?_ _ | refine ae_ ?_ | refine ad_ ?_ _)); exact BK935.out) hb)
      have n7_ := ab_ (au_ (by repeat (first | (with_reducible first | exact HB.out | apply ai_ | apply ag_ | apply ah_ | refine af_ ?_ GE909.out | refine af_ ?_ GE910.out | refine af_ ?_ GE911.out | refine af_ ?_ GE913.out | refine af_ ?_ GE935.out) | exact HB.out)) hb)
      clear HO933
      clear BK909
      clear BK910
      clear BK911
      clear BK913
      clear BK935
      clear HB
      have HO933 := n0_
      have HO941 := n1_
      have BK909 := n2_
      have BK910 := n3_
      have BK911 := n4_
      have BK913 := n5_
      have BK935 := n6_
      have HB := n7_
      clear n0_ n1_ n2_ n3_ n4_ n5_ n6_ n7_
      (try clear hb)
      (try clear hb2)
      (try clear hk)
      (try clear hi)
      (try clear ho0)
      refine hK.out _ _ ⟨(an_ BK909.out 0).trans rfl, (an_ BK909.out 1).trans rfl, (an_ BK910.out 0).trans rfl, (an_ BK910.out 1).trans rfl, (an_ BK910.out 2).trans rfl, ((HB.out.cell (aa_ w _ hw936_0)).trans hw936_0), ((HB.out.cell (aa_ w _ hw936_1)).trans hw936_1), ((HB.out.cell (aa_ w _ hw936_2)).trans hw936_2)⟩ (fun hHeld => ?_)
      clear hK K
      refine norm_ (a' := ?_) ?_ ?_
      rotate_left
      · show Act.put _ (some 70) _ = _
        simp only [Act.put, List.setIfInBounds_toArray, List.set_cons_zero, List.set_cons_succ, i64_w, i32_w]
        rfl
      refine pure_ (i := 6) (N := some 64) (v := ?_) (a' := ?_) #[true, true, true, true, true, true, true, false, false, false, false, false] rfl rfl (any_of HT_.out (by kernel_rfl)) (fun _ _ _ h => h) (Or.inl ⟨by rfl, ?_⟩) ?_ ?_
      rotate_left
      · intro w'
        go_simp
        with_reducible rfl
      rotate_left
      · simp only [Act.put, List.setIfInBounds_toArray, List.set_cons_zero, List.set_cons_succ, i64_w, i32_w]
        rfl
      refine pure_ (i := 7) (N := some 71) (v := ?_) (a' := ?_) #[true, true, true, true, true, true, true, true, false, false, false, false] rfl rfl (any_of HT_.out (by kernel_rfl)) (fun _ _ _ h => h) (Or.inl ⟨by rfl, ?_⟩) ?_ ?_
      rotate_left
      · intro w'
        go_simp
        with_reducible rfl
      rotate_left
      · simp only [Act.put, List.setIfInBounds_toArray, List.set_cons_zero, List.set_cons_succ, i64_w, i32_w]
        rfl
      refine pure_ (i := 8) (N := some 72) (v := ?_) (a' := ?_) #[true, true, true, true, true, true, true, true, true, false, false, false] rfl rfl (any_of HT_.out (by kernel_rfl)) (fun _ _ _ h => h) (Or.inl ⟨by rfl, ?_⟩) ?_ ?_
      rotate_left
      · intro w'
        go_simp
        with_reducible rfl
      rotate_left
      · simp only [Act.put, List.setIfInBounds_toArray, List.set_cons_zero, List.set_cons_succ, i64_w, i32_w]
        rfl
      refine one_ (i := 9) (N := some 9) #[true, true, true, true, true, true, true, true, true, true, false, false] rfl rfl (one_of HT_.out (by kernel_rfl)) (by decide) (fun K hK => ?_)
      refine box_step ?hg (N := 9) ?hd (cs := #[.bool false, .int .i64 0, .slice none 0 0]) (t := 93) ?hr ?_; (case hd => rfl); (case hg => rfl); (case hr => first | (go_simp; done) | (go_simp; rfl))
      intro gb943 hg w97 hbox hb
      have n0_ := ab_ (Kd.N_below (Kd.N_elderB (by (with_reducible repeat (first | apply Kd.N_alloc | apply Kd.N_drewN | apply Kd.N_drew)); exact HO933.out) gb943 (Nat.le_of_eq hg.symm)) hb)
      have n1_ := ab_ (Kd.N_below (Kd.N_elderB (by (with_reducible repeat (first | apply Kd.N_alloc | apply Kd.N_drewN | apply Kd.N_drew)); exact HO941.out) gb943 (Nat.le_of_eq hg.symm)) hb)
      have n2_ := ab_ (blk_below (g := gb909) (o := .cells #[.int .i64 a0_0, .slice (some ad912) l0_1.length c0_1] 29 (0, 0)) (by (with_reducible repeat (first | refine ac_ ?_ _ | refine ae_ ?_ | refine ad_ ?_ _)); exact BK909.out) hb)
      have n3_ := ab_ (blk_below (g := gb910) (o := .cells #[.bool true, .int .i64 a1_1, .slice (some ad928) l1_2.length c1_2] 93 (0, 0)) (by (with_reducible repeat (first | refine ac_ ?_ _ | refine ae_ ?_ | refine ad_ ?_ _)); exact BK910.out) hb)
      have n4_ := ab_ (blk_below (g := gb911) (o := .cells #[.bool false, .int .i64 0, .slice none 0 0] 93 (0, 0)) (by (with_reducible repeat (first | refine ac_ ?_ _ | refine ae_ ?_ | refine ad_ ?_ _)); exact BK911.out) hb)
      have n5_ := ab_ (blk_below (g := gb913) (o := .cells #[.int .i64 ((rd_T82 l0_1 a1_1).f0), .int .i64 ((rd_T82 l0_1 a1_1).f1)] 82 (0, 0)) (by (with_reducible repeat (first | refine ac_ ?_ _ | refine ae_ ?_ | refine ad_ ?_ _)); exact BK913.out) hb)
      have n6_ := ab_ (blk_below (g := gb935) (o := .cells #[.bool t929, .int .i64 t930, .slice Ao92 t931.length co92] 93 (0, 0)) (by (with_reducible repeat (first | refine ac_ ?_ _ | refine ae_ ?_ | refine ad_ ?_ _)); exact BK935.out) hb)
      have n7_ := ab_ (au_ (by repeat (first | (with_reducible first | exact HB.out | apply ai_ | apply ag_ | apply ah_ | refine af_ ?_ GE909.out | refine af_ ?_ GE910.out | refine af_ ?_ GE911.out | refine af_ ?_ GE913.out | refine af_ ?_ GE935.out) | exact HB.out)) hb)
      have n8_ := ab_ (hbox)
      have n9_ := ab_ ((by rw [hg]; exact (below_size (by repeat (first | (with_reducible first | exact HB.out | apply ai_ | apply ag_ | apply ah_ | refine af_ ?_ GE909.out | refine af_ ?_ GE910.out | refine af_ ?_ GE911.out | refine af_ ?_ GE913.out | refine af_ ?_ GE935.out) | exact HB.out))) : w.heap.size ≤ gb943))
      have n10_ := ab_ ((by rw [hg]; exact (below_size (by repeat (first | (with_reducible first | exact HB.out | apply ai_ | apply ag_ | apply ah_ | refine af_ ?_ GE909.out | refine af_ ?_ GE910.out | refine af_ ?_ GE911.out | refine af_ ?_ GE913.out | refine af_ ?_ GE935.out) | exact HB.out))) : w.heap.size ≤ gb943))
      have n11_ := ab_ ((by rw [hg]; exact ak_ (blk_lt (g := gb909) (o := .cells #[.int .i64 a0_0, .slice (some ad912) l0_1.length c0_1] 29 (0, 0)) (by (with_reducible repeat (first | refine ac_ ?_ _ | refine ae_ ?_ | refine ad_ ?_ _)); exact BK909.out)) : gb909 ≠ gb943))
      have n12_ := ab_ ((by rw [hg]; exact Nat.ne_of_gt (blk_lt (g := gb909) (o := .cells #[.int .i64 a0_0, .slice (some ad912) l0_1.length c0_1] 29 (0, 0)) (by (with_reducible repeat (first | refine ac_ ?_ _ | refine ae_ ?_ | refine ad_ ?_ _)); exact BK909.out)) : gb943 ≠ gb909))
      have n13_ := ab_ ((by rw [hg]; exact ak_ (blk_lt (g := gb910) (o := .cells #[.bool true, .int .i64 a1_1, .slice (some ad928) l1_2.length c1_2] 93 (0, 0)) (by (with_reducible repeat (first | refine ac_ ?_ _ | refine ae_ ?_ | refine ad_ ?_ _)); exact BK910.out)) : gb910 ≠ gb943))
      have n14_ := ab_ ((by rw [hg]; exact Nat.ne_of_gt (blk_lt (g := gb910) (o := .cells #[.bool true, .int .i64 a1_1, .slice (some ad928) l1_2.length c1_2] 93 (0, 0)) (by (with_reducible repeat (first | refine ac_ ?_ _ | refine ae_ ?_ | refine ad_ ?_ _)); exact BK910.out)) : gb943 ≠ gb910))
      have n15_ := ab_ ((by rw [hg]; exact ak_ (blk_lt (g := gb911) (o := .cells #[.bool false, .int .i64 0, .slice none 0 0] 93 (0, 0)) (by (with_reducible repeat (first | refine ac_ ?_ _ | refine ae_ ?_ | refine ad_ ?_ _)); exact BK911.out)) : gb911 ≠ gb943))
      have n16_ := ab_ ((by rw [hg]; exact Nat.ne_of_gt (blk_lt (g := gb911) (o := .cells #[.bool false, .int .i64 0, .slice none 0 0] 93 (0, 0)) (by (with_reducible repeat (first | refine ac_ ?_ _ | refine ae_ ?_ | refine ad_ ?_ _)); exact BK911.out)) : gb943 ≠ gb911))
      have n17_ := ab_ ((by rw [hg]; exact ak_ (blk_lt (g := gb913) (o := .cells #[.int .i64 ((rd_T82 l0_1 a1_1).f0), .int .i64 ((rd_T82 l0_1 a1_1).f1)] 82 (0, 0)) (by (with_reducible repeat (first | refine ac_ ?_ _ | refine ae_ ?_ | refine ad_ ?_ _)); exact BK913.out)) : gb913 ≠ gb943))
      have n18_ := ab_ ((by rw [hg]; exact Nat.ne_of_gt (blk_lt (g := gb913) (o := .cells #[.int .i64 ((rd_T82 l0_1 a1_1).f0), .int .i64 ((rd_T82 l0_1 a1_1).f1)] 82 (0, 0)) (by (with_reducible repeat (first | refine ac_ ?_ _ | refine ae_ ?_ | refine ad_ ?_ _)); exact BK913.out)) : gb943 ≠ gb913))
      have n19_ := ab_ ((by rw [hg]; exact ak_ (blk_lt (g := gb935) (o := .cells #[.bool t929, .int .i64 t930, .slice Ao92 t931.length co92] 93 (0, 0)) (by (with_reducible repeat (first | refine ac_ ?_ _ | refine ae_ ?_ | refine ad_ ?_ _)); exact BK935.out)) : gb935 ≠ gb943))
      have n20_ := ab_ ((by rw [hg]; exact Nat.ne_of_gt (blk_lt (g := gb935) (o := .cells #[.bool t929, .int .i64 t930, .slice Ao92 t931.length co92] 93 (0, 0)) (by (with_reducible repeat (first | refine ac_ ?_ _ | refine ae_ ?_ | refine ad_ ?_ _)); exact BK935.out)) : gb943 ≠ gb935))
      clear HO933
      clear HO941
      clear BK909
      clear BK910
      clear BK911
      clear BK913
      clear BK935
      clear HB
      have HO933 := n0_
      have HO941 := n1_
      have BK909 := n2_
      have BK910 := n3_
      have BK911 := n4_
      have BK913 := n5_
      have BK935 := n6_
      have HB := n7_
      have BK943 := n8_
      have GW943 := n9_
      have GE943 := n10_
      have NB909_943 := n11_
      have NB943_909 := n12_
      have NB910_943 := n13_
      have NB943_910 := n14_
      have NB911_943 := n15_
      have NB943_911 := n16_
      have NB913_943 := n17_
      have NB943_913 := n18_
      have NB935_943 := n19_
      have NB943_935 := n20_
      clear n0_ n1_ n2_ n3_ n4_ n5_ n6_ n7_ n8_ n9_ n10_ n11_ n12_ n13_ n14_ n15_ n16_ n17_ n18_ n19_ n20_
      clear hb hbox hg
      refine hK.out _ _ ⟨(an_ BK909.out 0).trans rfl, (an_ BK909.out 1).trans rfl, (an_ BK910.out 0).trans rfl, (an_ BK910.out 1).trans rfl, (an_ BK910.out 2).trans rfl, ((HB.out.cell (aa_ w _ hw936_0)).trans hw936_0), ((HB.out.cell (aa_ w _ hw936_1)).trans hw936_1), ((HB.out.cell (aa_ w _ hw936_2)).trans hw936_2)⟩ (fun hHeld => ?_)
      clear hK K
      refine norm_ (a' := ?_) ?_ ?_
      rotate_left
      · show Act.put _ (some 9) _ = _
        simp only [Act.put, List.setIfInBounds_toArray, List.set_cons_zero, List.set_cons_succ, i64_w, i32_w]
        rfl
      exact norm_ (by simp only [putAll, Act.put, List.setIfInBounds_toArray, List.set_cons_zero, List.set_cons_succ]) (hCont (v940, gb943) _ ⟨hHeld, (by (with_reducible repeat (first | apply Kd.N_alloc | apply Kd.N_drewN | apply Kd.N_drew)); exact Kd.N_mono HO933.out (fun _ hk => ⟨hk.1.1.1, ⟨hk.1.2, ⟨hk.1.1.2.1, ⟨hk.1.1.2.2.1, ⟨hk.1.1.2.2.2.1, ⟨hk.1.1.2.2.2.2.1, ⟨hk.1.1.2.2.2.2.2, hk.2⟩⟩⟩⟩⟩⟩⟩)), (by (with_reducible repeat (first | apply Kd.N_alloc | apply Kd.N_drewN | apply Kd.N_drew)); exact Kd.N_mono HO941.out (fun _ hk => ⟨hk.1.1, ⟨hk.1.2.1, ⟨hk.1.2.2.1, ⟨hk.1.2.2.2.1, ⟨hk.1.2.2.2.2.1, ⟨hk.1.2.2.2.2.2.1, ⟨hk.1.2.2.2.2.2.2, hk.2⟩⟩⟩⟩⟩⟩⟩)), (by (with_reducible repeat (first | refine ac_ ?_ _ | refine ae_ ?_ | refine ad_ ?_ _)); exact BK909.out), (by (with_reducible repeat (first | refine ac_ ?_ _ | refine ae_ ?_ | refine ad_ ?_ _)); exact BK910.out), (by (with_reducible repeat (first | refine ac_ ?_ _ | refine ae_ ?_ | refine ad_ ?_ _)); exact BK911.out), (by (with_reducible repeat (first | refine ac_ ?_ _ | refine ae_ ?_ | refine ad_ ?_ _)); exact BK913.out), (by (with_reducible repeat (first | refine ac_ ?_ _ | refine ae_ ?_ | refine ad_ ?_ _)); exact BK935.out), (by (with_reducible repeat (first | refine ac_ ?_ _ | refine ae_ ?_ | refine ad_ ?_ _)); exact BK943.out), GW943.out, GE943.out, NB909_943.out, NB943_909.out, NB910_943.out, NB943_910.out, NB911_943.out, NB943_911.out, NB913_943.out, NB943_913.out, NB935_943.out, NB943_935.out, (by repeat (first | (with_reducible first | exact HB.out | apply ai_ | apply ag_ | apply ah_ | refine af_ ?_ GE909.out | refine af_ ?_ GE910.out | refine af_ ?_ GE911.out | refine af_ ?_ GE913.out | refine af_ ?_ GE935.out | refine af_ ?_ GE943.out) | exact HB.out))⟩)
    · skip
      refine box_step ?hg (N := 9) ?hd (cs := #[.bool false, .int .i64 0, .slice none 0 0]) (t := 93) ?hr ?_; (case hd => rfl); (case hg => rfl); (case hr => first | (go_simp; done) | (go_simp; rfl))
      intro gb943 hg w96 hbox hb
      have n0_ := ab_ (Kd.N_below (Kd.N_elderB (by (with_reducible repeat (first | apply Kd.N_alloc | apply Kd.N_drewN | apply Kd.N_drew)); exact HO933.out) gb943 (Nat.le_of_eq hg.symm)) hb)
      have n1_ := ab_ (blk_below (g := gb909) (o := .cells #[.int .i64 a0_0, .slice (some ad912) l0_1.length c0_1] 29 (0, 0)) (by (with_reducible repeat (first | refine ac_ ?_ _ | refine ae_ ?_ | refine ad_ ?_ _)); exact BK909.out) hb)
      have n2_ := ab_ (blk_below (g := gb910) (o := .cells #[.bool true, .int .i64 a1_1, .slice (some ad928) l1_2.length c1_2] 93 (0, 0)) (by (with_reducible repeat (first | refine ac_ ?_ _ | refine ae_ ?_ | refine ad_ ?_ _)); exact BK910.out) hb)
      have n3_ := ab_ (blk_below (g := gb911) (o := .cells #[.bool false, .int .i64 0, .slice none 0 0] 93 (0, 0)) (by (with_reducible repeat (first | refine ac_ ?_ _ | refine ae_ ?_ | refine ad_ ?_ _)); exact BK911.out) hb)
      have n4_ := ab_ (blk_below (g := gb913) (o := .cells #[.int .i64 ((rd_T82 l0_1 a1_1).f0), .int .i64 ((rd_T82 l0_1 a1_1).f1)] 82 (0, 0)) (by (with_reducible repeat (first | refine ac_ ?_ _ | refine ae_ ?_ | refine ad_ ?_ _)); exact BK913.out) hb)
      have n5_ := ab_ (blk_below (g := gb935) (o := .cells #[.bool t929, .int .i64 t930, .slice Ao92 t931.length co92] 93 (0, 0)) (by (with_reducible repeat (first | refine ac_ ?_ _ | refine ae_ ?_ | refine ad_ ?_ _)); exact BK935.out) hb)
      have n6_ := ab_ (au_ (by repeat (first | (with_reducible first | exact HB.out | apply ai_ | apply ag_ | apply ah_ | refine af_ ?_ GE909.out | refine af_ ?_ GE910.out | refine af_ ?_ GE911.out | refine af_ ?_ GE913.out | refine af_ ?_ GE935.out) | exact HB.out)) hb)
      have n7_ := ab_ (hbox)
      have n8_ := ab_ ((by rw [hg]; exact (below_size (by repeat (first | (with_reducible first | exact HB.out | apply ai_ | apply ag_ | apply ah_ | refine af_ ?_ GE909.out | refine af_ ?_ GE910.out | refine af_ ?_ GE911.out | refine af_ ?_ GE913.out | refine af_ ?_ GE935.out) | exact HB.out))) : w.heap.size ≤ gb943))
      have n9_ := ab_ ((by rw [hg]; exact (below_size (by repeat (first | (with_reducible first | exact HB.out | apply ai_ | apply ag_ | apply ah_ | refine af_ ?_ GE909.out | refine af_ ?_ GE910.out | refine af_ ?_ GE911.out | refine af_ ?_ GE913.out | refine af_ ?_ GE935.out) | exact HB.out))) : w.heap.size ≤ gb943))
      have n10_ := ab_ ((by rw [hg]; exact ak_ (blk_lt (g := gb909) (o := .cells #[.int .i64 a0_0, .slice (some ad912) l0_1.length c0_1] 29 (0, 0)) (by (with_reducible repeat (first | refine ac_ ?_ _ | refine ae_ ?_ | refine ad_ ?_ _)); exact BK909.out)) : gb909 ≠ gb943))
      have n11_ := ab_ ((by rw [hg]; exact Nat.ne_of_gt (blk_lt (g := gb909) (o := .cells #[.int .i64 a0_0, .slice (some ad912) l0_1.length c0_1] 29 (0, 0)) (by (with_reducible repeat (first | refine ac_ ?_ _ | refine ae_ ?_ | refine ad_ ?_ _)); exact BK909.out)) : gb943 ≠ gb909))
      have n12_ := ab_ ((by rw [hg]; exact ak_ (blk_lt (g := gb910) (o := .cells #[.bool true, .int .i64 a1_1, .slice (some ad928) l1_2.length c1_2] 93 (0, 0)) (by (with_reducible repeat (first | refine ac_ ?_ _ | refine ae_ ?_ | refine ad_ ?_ _)); exact BK910.out)) : gb910 ≠ gb943))
      have n13_ := ab_ ((by rw [hg]; exact Nat.ne_of_gt (blk_lt (g := gb910) (o := .cells #[.bool true, .int .i64 a1_1, .slice (some ad928) l1_2.length c1_2] 93 (0, 0)) (by (with_reducible repeat (first | refine ac_ ?_ _ | refine ae_ ?_ | refine ad_ ?_ _)); exact BK910.out)) : gb943 ≠ gb910))
      have n14_ := ab_ ((by rw [hg]; exact ak_ (blk_lt (g := gb911) (o := .cells #[.bool false, .int .i64 0, .slice none 0 0] 93 (0, 0)) (by (with_reducible repeat (first | refine ac_ ?_ _ | refine ae_ ?_ | refine ad_ ?_ _)); exact BK911.out)) : gb911 ≠ gb943))
      have n15_ := ab_ ((by rw [hg]; exact Nat.ne_of_gt (blk_lt (g := gb911) (o := .cells #[.bool false, .int .i64 0, .slice none 0 0] 93 (0, 0)) (by (with_reducible repeat (first | refine ac_ ?_ _ | refine ae_ ?_ | refine ad_ ?_ _)); exact BK911.out)) : gb943 ≠ gb911))
      have n16_ := ab_ ((by rw [hg]; exact ak_ (blk_lt (g := gb913) (o := .cells #[.int .i64 ((rd_T82 l0_1 a1_1).f0), .int .i64 ((rd_T82 l0_1 a1_1).f1)] 82 (0, 0)) (by (with_reducible repeat (first | refine ac_ ?_ _ | refine ae_ ?_ | refine ad_ ?_ _)); exact BK913.out)) : gb913 ≠ gb943))
      have n17_ := ab_ ((by rw [hg]; exact Nat.ne_of_gt (blk_lt (g := gb913) (o := .cells #[.int .i64 ((rd_T82 l0_1 a1_1).f0), .int .i64 ((rd_T82 l0_1 a1_1).f1)] 82 (0, 0)) (by (with_reducible repeat (first | refine ac_ ?_ _ | refine ae_ ?_ | refine ad_ ?_ _)); exact BK913.out)) : gb943 ≠ gb913))
      have n18_ := ab_ ((by rw [hg]; exact ak_ (blk_lt (g := gb935) (o := .cells #[.bool t929, .int .i64 t930, .slice Ao92 t931.length co92] 93 (0, 0)) (by (with_reducible repeat (first | refine ac_ ?_ _ | refine ae_ ?_ | refine ad_ ?_ _)); exact BK935.out)) : gb935 ≠ gb943))
      have n19_ := ab_ ((by rw [hg]; exact Nat.ne_of_gt (blk_lt (g := gb935) (o := .cells #[.bool t929, .int .i64 t930, .slice Ao92 t931.length co92] 93 (0, 0)) (by (with_reducible repeat (first | refine ac_ ?_ _ | refine ae_ ?_ | refine ad_ ?_ _)); exact BK935.out)) : gb943 ≠ gb935))
      clear HO933
      clear BK909
      clear BK910
      clear BK911
      clear BK913
      clear BK935
      clear HB
      have HO933 := n0_
      have BK909 := n1_
      have BK910 := n2_
      have BK911 := n3_
      have BK913 := n4_
      have BK935 := n5_
      have HB := n6_
      have BK943 := n7_
      have GW943 := n8_
      have GE943 := n9_
      have NB909_943 := n10_
      have NB943_909 := n11_
      have NB910_943 := n12_
      have NB943_910 := n13_
      have NB911_943 := n14_
      have NB943_911 := n15_
      have NB913_943 := n16_
      have NB943_913 := n17_
      have NB935_943 := n18_
      have NB943_935 := n19_
      clear n0_ n1_ n2_ n3_ n4_ n5_ n6_ n7_ n8_ n9_ n10_ n11_ n12_ n13_ n14_ n15_ n16_ n17_ n18_ n19_
      clear hb hbox hg
      refine hK.out _ _ ⟨(an_ BK909.out 0).trans rfl, (an_ BK909.out 1).trans rfl, (an_ BK910.out 0).trans rfl, (an_ BK910.out 1).trans rfl, (an_ BK910.out 2).trans rfl, ((HB.out.cell (aa_ w _ hw936_0)).trans hw936_0), ((HB.out.cell (aa_ w _ hw936_1)).trans hw936_1), ((HB.out.cell (aa_ w _ hw936_2)).trans hw936_2)⟩ (fun hHeld => ?_)
      clear hK K
      refine norm_ (a' := ?_) ?_ ?_
      rotate_left
      · show Act.put _ (some 9) _ = _
        simp only [Act.put, List.setIfInBounds_toArray, List.set_cons_zero, List.set_cons_succ, i64_w, i32_w]
        rfl
      refine one_ (i := 5) (N := some 70) #[true, true, true, true, true, true, false, false, false, true, false, false] rfl rfl (one_of HT_.out (by kernel_rfl)) (by decide) (fun K hK => ?_)
      refine goes_ Try.func87 (by kernel_rfl) rfl #[.agg #[.int .i64 a0_0, .slice (some ad912) l0_1.length c0_1], .agg #[.bool ((rd_T93 l1_2 1).f0), .int .i64 ((rd_T93 l1_2 1).f1), .slice A936_2 ((rd_T93 l1_2 1).f2).length c936_2]] (by rfl) rfl rfl (by (try simp only [List.map_toArray, List.map_cons, List.map_nil]); first | done | rfl | (simp only [List.length_drop, List.length_take]; rfl)) ?_
      with_reducible refine (ih k (by omega) a0_0 _ _ l0_1 ((rd_T93 l1_2 1).f0) ((rd_T93 l1_2 1).f1) _ _ ((rd_T93 l1_2 1).f2) t937 t938 t939 t942 _ ?side1 ?side2 ?side3 ?side4 A70.out).mono ?_
      (case side1 => repeat (first | exact (Kd.C_below HR0_1.out HB.out) | (with_reducible refine ar_ ?_ _) | (with_reducible refine as_ ?_ _) | (with_reducible refine Kd.C_drew ?_)))
      (case side2 => exact HC0_1.out)
      (case side3 => repeat (first | exact (Kd.C_below HR936_2.out HB.out) | (with_reducible refine ar_ ?_ _) | (with_reducible refine as_ ?_ _) | (with_reducible refine Kd.C_drew ?_)))
      (case side4 => exact HC936_2.out)
      rintro e w97 ⟨v940, rfl, ho0, hb⟩
      refine ⟨_, rfl, ?_⟩
      have n0_ := ab_ (Kd.N_elder' (by (with_reducible repeat (first | apply Kd.N_alloc | apply Kd.N_drewN | apply Kd.N_drew)); exact HO933.out) (Kd.N_base ho0) hb)
      have n1_ := ab_ (Kd.N_lower (Kd.N_mono (ok' := fun k_ => (w.heap.size ≤ k_) ∧ some k_ ≠ (.slice Ao92 t931.length co92 : Value).ownBlock ∧ k_ ≠ gb909 ∧ k_ ≠ gb910 ∧ k_ ≠ gb911 ∧ k_ ≠ gb913 ∧ k_ ≠ gb935 ∧ k_ ≠ gb943) ho0 (fun k_ hk_ => ⟨(Nat.le_trans (below_size (by repeat (first | (with_reducible first | exact HB.out | apply ai_ | apply ag_ | apply ah_ | refine af_ ?_ GE909.out | refine af_ ?_ GE910.out | refine af_ ?_ GE911.out | refine af_ ?_ GE913.out | refine af_ ?_ GE935.out | refine af_ ?_ GE943.out) | exact HB.out))) hk_), (Kd.fresh' (Kd.N_lt (by (with_reducible repeat (first | apply Kd.N_alloc | apply Kd.N_drewN | apply Kd.N_drew)); exact HO933.out)) k_ hk_), (Kd.freshB (g := gb909) (o := .cells #[.int .i64 a0_0, .slice (some ad912) l0_1.length c0_1] 29 (0, 0)) (by (with_reducible repeat (first | refine ac_ ?_ _ | refine ae_ ?_ | refine ad_ ?_ _)); exact BK909.out) k_ hk_), (Kd.freshB (g := gb910) (o := .cells #[.bool true, .int .i64 a1_1, .slice (some ad928) l1_2.length c1_2] 93 (0, 0)) (by (with_reducible repeat (first | refine ac_ ?_ _ | refine ae_ ?_ | refine ad_ ?_ _)); exact BK910.out) k_ hk_), (Kd.freshB (g := gb911) (o := .cells #[.bool false, .int .i64 0, .slice none 0 0] 93 (0, 0)) (by (with_reducible repeat (first | refine ac_ ?_ _ | refine ae_ ?_ | refine ad_ ?_ _)); exact BK911.out) k_ hk_), (Kd.freshB (g := gb913) (o := .cells #[.int .i64 ((rd_T82 l0_1 a1_1).f0), .int .i64 ((rd_T82 l0_1 a1_1).f1)] 82 (0, 0)) (by (with_reducible repeat (first | refine ac_ ?_ _ | refine ae_ ?_ | refine ad_ ?_ _)); exact BK913.out) k_ hk_), (Kd.freshB (g := gb935) (o := .cells #[.bool t929, .int .i64 t930, .slice Ao92 t931.length co92] 93 (0, 0)) (by (with_reducible repeat (first | refine ac_ ?_ _ | refine ae_ ?_ | refine ad_ ?_ _)); exact BK935.out) k_ hk_), (Kd.freshB (g := gb943) (o := .cells #[.bool false, .int .i64 0, .slice none 0 0] 93 (0, 0)) (by (with_reducible repeat (first | refine ac_ ?_ _ | refine ae_ ?_ | refine ad_ ?_ _)); exact BK943.out) k_ hk_)⟩)) (below_size (by repeat (first | (with_reducible first | exact HB.out | apply ai_ | apply ag_ | apply ah_ | refine af_ ?_ GE909.out | refine af_ ?_ GE910.out | refine af_ ?_ GE911.out | refine af_ ?_ GE913.out | refine af_ ?_ GE935.out | refine af_ ?_ GE943.out) | exact HB.out))))
      have n2_ := ab_ (blk_below (g := gb909) (o := .cells #[.int .i64 a0_0, .slice (some ad912) l0_1.length c0_1] 29 (0, 0)) (by (with_reducible repeat (first | refine ac_ ?_ _ | refine ae_ ?_ | refine ad_ ?_ _)); exact BK909.out) hb)
      have n3_ := ab_ (blk_below (g := gb910) (o := .cells #[.bool true, .int .i64 a1_1, .slice (some ad928) l1_2.length c1_2] 93 (0, 0)) (by (with_reducible repeat (first | refine ac_ ?_ _ | refine ae_ ?_ | refine ad_ ?_ _)); exact BK910.out) hb)
      have n4_ := ab_ (blk_below (g := gb911) (o := .cells #[.bool false, .int .i64 0, .slice none 0 0] 93 (0, 0)) (by (with_reducible repeat (first | refine ac_ ?_ _ | refine ae_ ?_ | refine ad_ ?_ _)); exact BK911.out) hb)
      have n5_ := ab_ (blk_below (g := gb913) (o := .cells #[.int .i64 ((rd_T82 l0_1 a1_1).f0), .int .i64 ((rd_T82 l0_1 a1_1).f1)] 82 (0, 0)) (by (with_reducible repeat (first | refine ac_ ?_ _ | refine ae_ ?_ | refine ad_ ?_ _)); exact BK913.out) hb)
      have n6_ := ab_ (blk_below (g := gb935) (o := .cells #[.bool t929, .int .i64 t930, .slice Ao92 t931.length co92] 93 (0, 0)) (by (with_reducible repeat (first | refine ac_ ?_ _ | refine ae_ ?_ | refine ad_ ?_ _)); exact BK935.out) hb)
      have n7_ := ab_ (blk_below (g := gb943) (o := .cells #[.bool false, .int .i64 0, .slice none 0 0] 93 (0, 0)) (by (with_reducible repeat (first | refine ac_ ?_ _ | refine ae_ ?_ | refine ad_ ?_ _)); exact BK943.out) hb)
      have n8_ := ab_ (au_ (by repeat (first | (with_reducible first | exact HB.out | apply ai_ | apply ag_ | apply ah_ | refine af_ ?_ GE909.out | refine af_ ?_ GE910.out | refine af_ ?_ GE911.out | refine af_ ?_ GE913.out | refine af_ ?_ GE935.out | refine af_ ?_ GE943.out) | exact HB.out)) hb)
      clear HO933
      clear BK909
      clear BK910
      clear BK911
      clear BK913
      clear BK935
      clear BK943
      clear HB
      have HO933 := n0_
      have HO941 := n1_
      have BK909 := n2_
      have BK910 := n3_
      have BK911 := n4_
      have BK913 := n5_
      have BK935 := n6_
      have BK943 := n7_
      have HB := n8_
      clear n0_ n1_ n2_ n3_ n4_ n5_ n6_ n7_ n8_
      (try clear hb)
      (try clear hb2)
      (try clear hk)
      (try clear hi)
      (try clear ho0)
      refine hK.out _ _ ⟨(an_ BK909.out 0).trans rfl, (an_ BK909.out 1).trans rfl, (an_ BK910.out 0).trans rfl, (an_ BK910.out 1).trans rfl, (an_ BK910.out 2).trans rfl, ((HB.out.cell (aa_ w _ hw936_0)).trans hw936_0), ((HB.out.cell (aa_ w _ hw936_1)).trans hw936_1), ((HB.out.cell (aa_ w _ hw936_2)).trans hw936_2)⟩ (fun hHeld => ?_)
      clear hK K
      refine norm_ (a' := ?_) ?_ ?_
      rotate_left
      · show Act.put _ (some 70) _ = _
        simp only [Act.put, List.setIfInBounds_toArray, List.set_cons_zero, List.set_cons_succ, i64_w, i32_w]
        rfl
      refine pure_ (i := 6) (N := some 64) (v := ?_) (a' := ?_) #[true, true, true, true, true, true, true, false, false, true, false, false] rfl rfl (any_of HT_.out (by kernel_rfl)) (fun _ _ _ h => h) (Or.inl ⟨by rfl, ?_⟩) ?_ ?_
      rotate_left
      · intro w'
        go_simp
        with_reducible rfl
      rotate_left
      · simp only [Act.put, List.setIfInBounds_toArray, List.set_cons_zero, List.set_cons_succ, i64_w, i32_w]
        rfl
      refine pure_ (i := 7) (N := some 71) (v := ?_) (a' := ?_) #[true, true, true, true, true, true, true, true, false, true, false, false] rfl rfl (any_of HT_.out (by kernel_rfl)) (fun _ _ _ h => h) (Or.inl ⟨by rfl, ?_⟩) ?_ ?_
      rotate_left
      · intro w'
        go_simp
        with_reducible rfl
      rotate_left
      · simp only [Act.put, List.setIfInBounds_toArray, List.set_cons_zero, List.set_cons_succ, i64_w, i32_w]
        rfl
      refine pure_ (i := 8) (N := some 72) (v := ?_) (a' := ?_) #[true, true, true, true, true, true, true, true, true, true, false, false] rfl rfl (any_of HT_.out (by kernel_rfl)) (fun _ _ _ h => h) (Or.inl ⟨by rfl, ?_⟩) ?_ ?_
      rotate_left
      · intro w'
        go_simp
        with_reducible rfl
      rotate_left
      · simp only [Act.put, List.setIfInBounds_toArray, List.set_cons_zero, List.set_cons_succ, i64_w, i32_w]
        rfl
      exact norm_ (by simp only [putAll, Act.put, List.setIfInBounds_toArray, List.set_cons_zero, List.set_cons_succ]) (hCont (v940, gb943) _ ⟨hHeld, (by (with_reducible repeat (first | apply Kd.N_alloc | apply Kd.N_drewN | apply Kd.N_drew)); exact Kd.N_mono HO933.out (fun _ hk => ⟨hk.1.1.1, ⟨hk.2, ⟨hk.1.1.2.1, ⟨hk.1.1.2.2.1, ⟨hk.1.1.2.2.2.1, ⟨hk.1.1.2.2.2.2.1, ⟨hk.1.1.2.2.2.2.2, hk.1.2⟩⟩⟩⟩⟩⟩⟩)), (by (with_reducible repeat (first | apply Kd.N_alloc | apply Kd.N_drewN | apply Kd.N_drew)); exact HO941.out), (by (with_reducible repeat (first | refine ac_ ?_ _ | refine ae_ ?_ | refine ad_ ?_ _)); exact BK909.out), (by (with_reducible repeat (first | refine ac_ ?_ _ | refine ae_ ?_ | refine ad_ ?_ _)); exact BK910.out), (by (with_reducible repeat (first | refine ac_ ?_ _ | refine ae_ ?_ | refine ad_ ?_ _)); exact BK911.out), (by (with_reducible repeat (first | refine ac_ ?_ _ | refine ae_ ?_ | refine ad_ ?_ _)); exact BK913.out), (by (with_reducible repeat (first | refine ac_ ?_ _ | refine ae_ ?_ | refine ad_ ?_ _)); exact BK935.out), (by (with_reducible repeat (first | refine ac_ ?_ _ | refine ae_ ?_ | refine ad_ ?_ _)); exact BK943.out), GW943.out, GE943.out, NB909_943.out, NB943_909.out, NB910_943.out, NB943_910.out, NB911_943.out, NB943_911.out, NB913_943.out, NB943_913.out, NB935_943.out, NB943_935.out, (by repeat (first | (with_reducible first | exact HB.out | apply ai_ | apply ag_ | apply ah_ | refine af_ ?_ GE909.out | refine af_ ?_ GE910.out | refine af_ ?_ GE911.out | refine af_ ?_ GE913.out | refine af_ ?_ GE935.out | refine af_ ?_ GE943.out) | exact HB.out))⟩)
  rintro ⟨v940, gb943⟩ w98 ⟨hS_, h0_, h1_, h2_, h3_, h4_, h5_, h6_, h7_, h8_, h9_, h10_, h11_, h12_, h13_, h14_, h15_, h16_, h17_, h18_, h19_, h20_⟩
  have n0_ : Aside0 (Kd.N k93 93 w98 w.heap.size (fun k_ => (w.heap.size ≤ k_) ∧ some k_ ≠ (v940 : Value).ownBlock ∧ k_ ≠ gb909 ∧ k_ ≠ gb910 ∧ k_ ≠ gb911 ∧ k_ ≠ gb913 ∧ k_ ≠ gb935 ∧ k_ ≠ gb943) (.slice Ao92 t931.length co92) t931) := ⟨h0_⟩
  have n1_ : Aside0 (Kd.N k93 93 w98 w.heap.size (fun k_ => (w.heap.size ≤ k_) ∧ some k_ ≠ (.slice Ao92 t931.length co92 : Value).ownBlock ∧ k_ ≠ gb909 ∧ k_ ≠ gb910 ∧ k_ ≠ gb911 ∧ k_ ≠ gb913 ∧ k_ ≠ gb935 ∧ k_ ≠ gb943) v940 t939) := ⟨h1_⟩
  have n2_ : Aside0 (w98.heap[gb909]? = some (.cells #[.int .i64 a0_0, .slice (some ad912) l0_1.length c0_1] 29 (0, 0))) := ⟨h2_⟩
  have n3_ : Aside0 (w98.heap[gb910]? = some (.cells #[.bool true, .int .i64 a1_1, .slice (some ad928) l1_2.length c1_2] 93 (0, 0))) := ⟨h3_⟩
  have n4_ : Aside0 (w98.heap[gb911]? = some (.cells #[.bool false, .int .i64 0, .slice none 0 0] 93 (0, 0))) := ⟨h4_⟩
  have n5_ : Aside0 (w98.heap[gb913]? = some (.cells #[.int .i64 ((rd_T82 l0_1 a1_1).f0), .int .i64 ((rd_T82 l0_1 a1_1).f1)] 82 (0, 0))) := ⟨h5_⟩
  have n6_ : Aside0 (w98.heap[gb935]? = some (.cells #[.bool t929, .int .i64 t930, .slice Ao92 t931.length co92] 93 (0, 0))) := ⟨h6_⟩
  have n7_ : Aside0 (w98.heap[gb943]? = some (.cells #[.bool false, .int .i64 0, .slice none 0 0] 93 (0, 0))) := ⟨h7_⟩
  have n8_ : Aside0 (w.heap.size ≤ gb943) := ⟨h8_⟩
  have n9_ : Aside0 (w.heap.size ≤ gb943) := ⟨h9_⟩
  have n10_ : Aside0 (gb909 ≠ gb943) := ⟨h10_⟩
  have n11_ : Aside0 (gb943 ≠ gb909) := ⟨h11_⟩
  have n12_ : Aside0 (gb910 ≠ gb943) := ⟨h12_⟩
  have n13_ : Aside0 (gb943 ≠ gb910) := ⟨h13_⟩
  have n14_ : Aside0 (gb911 ≠ gb943) := ⟨h14_⟩
  have n15_ : Aside0 (gb943 ≠ gb911) := ⟨h15_⟩
  have n16_ : Aside0 (gb913 ≠ gb943) := ⟨h16_⟩
  have n17_ : Aside0 (gb943 ≠ gb913) := ⟨h17_⟩
  have n18_ : Aside0 (gb935 ≠ gb943) := ⟨h18_⟩
  have n19_ : Aside0 (gb943 ≠ gb935) := ⟨h19_⟩
  have n20_ : Aside0 (Below w.heap.size w w98) := ⟨h20_⟩
  clear HO933
  clear BK909
  clear BK910
  clear BK911
  clear BK913
  clear BK935
  clear HB
  clear h0_ h1_ h2_ h3_ h4_ h5_ h6_ h7_ h8_ h9_ h10_ h11_ h12_ h13_ h14_ h15_ h16_ h17_ h18_ h19_ h20_
  have HO933 := n0_
  have HO941 := n1_
  have BK909 := n2_
  have BK910 := n3_
  have BK911 := n4_
  have BK913 := n5_
  have BK935 := n6_
  have BK943 := n7_
  have GW943 := n8_
  have GE943 := n9_
  have NB909_943 := n10_
  have NB943_909 := n11_
  have NB910_943 := n12_
  have NB943_910 := n13_
  have NB911_943 := n14_
  have NB943_911 := n15_
  have NB913_943 := n16_
  have NB943_913 := n17_
  have NB935_943 := n18_
  have NB943_935 := n19_
  have HB := n20_
  clear n0_ n1_ n2_ n3_ n4_ n5_ n6_ n7_ n8_ n9_ n10_ n11_ n12_ n13_ n14_ n15_ n16_ n17_ n18_ n19_ n20_
  have hHeld : w98.cell? ⟨gb909, 0, none⟩ = some (.int .i64 a0_0) ∧ w98.cell? ⟨gb909, 1, none⟩ = some (.slice (some ad912) l0_1.length c0_1) ∧ w98.cell? ⟨gb910, 0, none⟩ = some (.bool true) ∧ w98.cell? ⟨gb910, 1, none⟩ = some (.int .i64 a1_1) ∧ w98.cell? ⟨gb910, 2, none⟩ = some (.slice (some ad928) l1_2.length c1_2) ∧ w98.cell? ⟨ad928.block, ad928.off + 3, none⟩ = some (.bool ((rd_T93 l1_2 1).f0)) ∧ w98.cell? ⟨ad928.block, ad928.off + 3 + 1, none⟩ = some (.int .i64 ((rd_T93 l1_2 1).f1)) ∧ w98.cell? ⟨ad928.block, ad928.off + 3 + 2, none⟩ = some (.slice A936_2 ((rd_T93 l1_2 1).f2).length c936_2) := hS_
  obtain ⟨Ao101, co101, eo101⟩ := Kd.N_slice HO941.out
  (first | subst eo101 | (injection eo101 with f1_ f2_ f3_; have f4_ := f1_.symm; have f5_ := f3_.symm; clear f1_ f2_ f3_; subst f4_; subst f5_))
  refine norm_ (a' := ?_) ?_ ?_
  rotate_left
  · simp only [putAll, Act.put, List.setIfInBounds_toArray, List.set_cons_zero, List.set_cons_succ]
    rfl
  refine one_ (i := 10) (N := none) #[true, true, true, true, true, true, true, true, true, true, true, false] rfl rfl (one_of HT_.out (by kernel_rfl)) (by decide) (fun K hK => ?_)
  have hs99 : w98.cell? ⟨gb943, 0, none⟩ = some (.bool false) := (an_ BK943.out 0).trans rfl
  have hfs99 := am_ BK943.out 0
  have hns99_0 := NB909_943.out
  have hns99_1 := NB910_943.out
  have hns99_2 := NB911_943.out
  have hns99_3 := NB913_943.out
  have hns99_4 := NB935_943.out
  have hms99_0 := NB943_909.out
  have hms99_1 := NB943_910.out
  have hms99_2 := NB943_911.out
  have hms99_3 := NB943_913.out
  have hms99_4 := NB943_935.out
  have hs100 : w98.cell? ⟨gb943, 1, none⟩ = some (.int .i64 0) := (an_ BK943.out 1).trans rfl
  have hfs100 := am_ BK943.out 1
  have hns100_0 := NB909_943.out
  have hns100_1 := NB910_943.out
  have hns100_2 := NB911_943.out
  have hns100_3 := NB913_943.out
  have hns100_4 := NB935_943.out
  have hms100_0 := NB943_909.out
  have hms100_1 := NB943_910.out
  have hms100_2 := NB943_911.out
  have hms100_3 := NB943_913.out
  have hms100_4 := NB943_935.out
  have hs102 : w98.cell? ⟨gb943, 2, none⟩ = some (.slice none 0 0) := (an_ BK943.out 2).trans rfl
  have hfs102 := am_ BK943.out 2
  have hns102_0 := NB909_943.out
  have hns102_1 := NB910_943.out
  have hns102_2 := NB911_943.out
  have hns102_3 := NB913_943.out
  have hns102_4 := NB935_943.out
  have hms102_0 := NB943_909.out
  have hms102_1 := NB943_910.out
  have hms102_2 := NB943_911.out
  have hms102_3 := NB943_913.out
  have hms102_4 := NB943_935.out
  refine skip_ (w1 := ?_) (by rfl) rfl ?_ ?_
  rotate_left
  · go_simp
    rfl
  refine hK.out _ _ ⟨((cw_ (p := ⟨gb943, _, none⟩) NB909_943.out _).trans (((cw_ (p := ⟨gb943, _, none⟩) NB909_943.out _).trans (((cw_ (p := ⟨gb943, _, none⟩) NB909_943.out _).trans (hHeld.1)))))), ((cw_ (p := ⟨gb943, _, none⟩) NB909_943.out _).trans (((cw_ (p := ⟨gb943, _, none⟩) NB909_943.out _).trans (((cw_ (p := ⟨gb943, _, none⟩) NB909_943.out _).trans (hHeld.2.1)))))), ((cw_ (p := ⟨gb943, _, none⟩) NB910_943.out _).trans (((cw_ (p := ⟨gb943, _, none⟩) NB910_943.out _).trans (((cw_ (p := ⟨gb943, _, none⟩) NB910_943.out _).trans (hHeld.2.2.1)))))), ((cw_ (p := ⟨gb943, _, none⟩) NB910_943.out _).trans (((cw_ (p := ⟨gb943, _, none⟩) NB910_943.out _).trans (((cw_ (p := ⟨gb943, _, none⟩) NB910_943.out _).trans (hHeld.2.2.2.1)))))), ((cw_ (p := ⟨gb943, _, none⟩) NB910_943.out _).trans (((cw_ (p := ⟨gb943, _, none⟩) NB910_943.out _).trans (((cw_ (p := ⟨gb943, _, none⟩) NB910_943.out _).trans (hHeld.2.2.2.2.1)))))), ((cw_ (p := ⟨gb943, _, none⟩) (by first | exact ak_ (aj_ (by have := aa_ _ _ hw936_0; first | rwa [al_] at this | exact this) GW943.out) | (rw [al_]; exact ak_ (aj_ (by have := aa_ _ _ hw936_0; first | rwa [al_] at this | exact this) GW943.out)) | (show (Addr.add _ _).block ≠ _; rw [al_]; exact ak_ (aj_ (by have := aa_ _ _ hw936_0; first | rwa [al_] at this | exact this) GW943.out)) | (dsimp only; exact ak_ (aj_ (by have := aa_ _ _ hw936_0; first | rwa [al_] at this | exact this) GW943.out))) _).trans (((cw_ (p := ⟨gb943, _, none⟩) (by first | exact ak_ (aj_ (by have := aa_ _ _ hw936_0; first | rwa [al_] at this | exact this) GW943.out) | (rw [al_]; exact ak_ (aj_ (by have := aa_ _ _ hw936_0; first | rwa [al_] at this | exact this) GW943.out)) | (show (Addr.add _ _).block ≠ _; rw [al_]; exact ak_ (aj_ (by have := aa_ _ _ hw936_0; first | rwa [al_] at this | exact this) GW943.out)) | (dsimp only; exact ak_ (aj_ (by have := aa_ _ _ hw936_0; first | rwa [al_] at this | exact this) GW943.out))) _).trans (((cw_ (p := ⟨gb943, _, none⟩) (by first | exact ak_ (aj_ (by have := aa_ _ _ hw936_0; first | rwa [al_] at this | exact this) GW943.out) | (rw [al_]; exact ak_ (aj_ (by have := aa_ _ _ hw936_0; first | rwa [al_] at this | exact this) GW943.out)) | (show (Addr.add _ _).block ≠ _; rw [al_]; exact ak_ (aj_ (by have := aa_ _ _ hw936_0; first | rwa [al_] at this | exact this) GW943.out)) | (dsimp only; exact ak_ (aj_ (by have := aa_ _ _ hw936_0; first | rwa [al_] at this | exact this) GW943.out))) _).trans (hHeld.2.2.2.2.2.1)))))), ((cw_ (p := ⟨gb943, _, none⟩) (by first | exact ak_ (aj_ (by have := aa_ _ _ hw936_1; first | rwa [al_] at this | exact this) GW943.out) | (rw [al_]; exact ak_ (aj_ (by have := aa_ _ _ hw936_1; first | rwa [al_] at this | exact this) GW943.out)) | (show (Addr.add _ _).block ≠ _; rw [al_]; exact ak_ (aj_ (by have := aa_ _ _ hw936_1; first | rwa [al_] at this | exact this) GW943.out)) | (dsimp only; exact ak_ (aj_ (by have := aa_ _ _ hw936_1; first | rwa [al_] at this | exact this) GW943.out))) _).trans (((cw_ (p := ⟨gb943, _, none⟩) (by first | exact ak_ (aj_ (by have := aa_ _ _ hw936_1; first | rwa [al_] at this | exact this) GW943.out) | (rw [al_]; exact ak_ (aj_ (by have := aa_ _ _ hw936_1; first | rwa [al_] at this | exact this) GW943.out)) | (show (Addr.add _ _).block ≠ _; rw [al_]; exact ak_ (aj_ (by have := aa_ _ _ hw936_1; first | rwa [al_] at this | exact this) GW943.out)) | (dsimp only; exact ak_ (aj_ (by have := aa_ _ _ hw936_1; first | rwa [al_] at this | exact this) GW943.out))) _).trans (((cw_ (p := ⟨gb943, _, none⟩) (by first | exact ak_ (aj_ (by have := aa_ _ _ hw936_1; first | rwa [al_] at this | exact this) GW943.out) | (rw [al_]; exact ak_ (aj_ (by have := aa_ _ _ hw936_1; first | rwa [al_] at this | exact this) GW943.out)) | (show (Addr.add _ _).block ≠ _; rw [al_]; exact ak_ (aj_ (by have := aa_ _ _ hw936_1; first | rwa [al_] at this | exact this) GW943.out)) | (dsimp only; exact ak_ (aj_ (by have := aa_ _ _ hw936_1; first | rwa [al_] at this | exact this) GW943.out))) _).trans (hHeld.2.2.2.2.2.2.1)))))), ((cw_ (p := ⟨gb943, _, none⟩) (by first | exact ak_ (aj_ (by have := aa_ _ _ hw936_2; first | rwa [al_] at this | exact this) GW943.out) | (rw [al_]; exact ak_ (aj_ (by have := aa_ _ _ hw936_2; first | rwa [al_] at this | exact this) GW943.out)) | (show (Addr.add _ _).block ≠ _; rw [al_]; exact ak_ (aj_ (by have := aa_ _ _ hw936_2; first | rwa [al_] at this | exact this) GW943.out)) | (dsimp only; exact ak_ (aj_ (by have := aa_ _ _ hw936_2; first | rwa [al_] at this | exact this) GW943.out))) _).trans (((cw_ (p := ⟨gb943, _, none⟩) (by first | exact ak_ (aj_ (by have := aa_ _ _ hw936_2; first | rwa [al_] at this | exact this) GW943.out) | (rw [al_]; exact ak_ (aj_ (by have := aa_ _ _ hw936_2; first | rwa [al_] at this | exact this) GW943.out)) | (show (Addr.add _ _).block ≠ _; rw [al_]; exact ak_ (aj_ (by have := aa_ _ _ hw936_2; first | rwa [al_] at this | exact this) GW943.out)) | (dsimp only; exact ak_ (aj_ (by have := aa_ _ _ hw936_2; first | rwa [al_] at this | exact this) GW943.out))) _).trans (((cw_ (p := ⟨gb943, _, none⟩) (by first | exact ak_ (aj_ (by have := aa_ _ _ hw936_2; first | rwa [al_] at this | exact this) GW943.out) | (rw [al_]; exact ak_ (aj_ (by have := aa_ _ _ hw936_2; first | rwa [al_] at this | exact this) GW943.out)) | (show (Addr.add _ _).block ≠ _; rw [al_]; exact ak_ (aj_ (by have := aa_ _ _ hw936_2; first | rwa [al_] at this | exact this) GW943.out)) | (dsimp only; exact ak_ (aj_ (by have := aa_ _ _ hw936_2; first | rwa [al_] at this | exact this) GW943.out))) _).trans (hHeld.2.2.2.2.2.2.2))))))⟩ (fun hHeld => ?_)
  clear hK K
  refine pure_ (i := 11) (N := some 10) (v := ?_) (a' := ?_) #[true, true, true, true, true, true, true, true, true, true, true, true] rfl rfl (any_of HT_.out (by kernel_rfl)) (fun _ _ _ h => h) (Or.inl ⟨by rfl, ?_⟩) ?_ ?_
  rotate_left
  · intro w'
    go_simp
    with_reducible rfl
  rotate_left
  · simp only [Act.put, List.setIfInBounds_toArray, List.set_cons_zero, List.set_cons_succ, i64_w, i32_w]
    rfl
  refine done_ (done_of HT_.out (by kernel_rfl)) ?_
  go_upto_region 13 with (fail)
  go_cut [78] (fun v78 wc => ∃ (kq : Nat) (x78_70 : Bool), v78 = .bool x78_70 ∧ Aside0 (spec_l9Handle.j0 kq x78_70 true a1_1 l1_2 ((rd_T82 l0_1 a1_1).f0) ((rd_T82 l0_1 a1_1).f1) t929 t930 t931 t937 t938 t939 = some (r1, r2, r3, r4)) ∧ Aside0 (kq ≤ k) ∧ Aside0 (Kd.N k93 93 wc w.heap.size (fun k_ => (w.heap.size ≤ k_) ∧ some k_ ≠ ((.slice Ao101 t939.length co101) : Value).ownBlock ∧ k_ ≠ gb909 ∧ k_ ≠ gb910 ∧ k_ ≠ gb911 ∧ k_ ≠ gb913 ∧ k_ ≠ gb935 ∧ k_ ≠ gb943) (.slice Ao92 t931.length co92) t931) ∧ Aside0 (Kd.N k93 93 wc w.heap.size (fun k_ => (w.heap.size ≤ k_) ∧ some k_ ≠ ((.slice Ao92 t931.length co92) : Value).ownBlock ∧ k_ ≠ gb909 ∧ k_ ≠ gb910 ∧ k_ ≠ gb911 ∧ k_ ≠ gb913 ∧ k_ ≠ gb935 ∧ k_ ≠ gb943) (.slice Ao101 t939.length co101) t939) ∧ Aside0 (wc.heap[gb909]? = some (.cells #[.int .i64 a0_0, (.slice (some ad912) l0_1.length c0_1)] 29 (0, 0))) ∧ Aside0 (wc.heap[gb910]? = some (.cells #[.bool true, .int .i64 a1_1, (.slice (some ad928) l1_2.length c1_2)] 93 (0, 0))) ∧ Aside0 (wc.heap[gb911]? = some (.cells #[.bool false, .int .i64 0, (.slice none 0 0)] 93 (0, 0))) ∧ Aside0 (wc.heap[gb913]? = some (.cells #[.int .i64 ((rd_T82 l0_1 a1_1).f0), .int .i64 ((rd_T82 l0_1 a1_1).f1)] 82 (0, 0))) ∧ Aside0 (wc.heap[gb935]? = some (.cells #[.bool t929, .int .i64 t930, (.slice Ao92 t931.length co92)] 93 (0, 0))) ∧ Aside0 (wc.heap[gb943]? = some (.cells #[.bool t937, .int .i64 t938, (.slice Ao101 t939.length co101)] 93 (0, 0))) ∧ Aside0 (Below w.heap.size w wc))
  case first =>
    have H := HC71.out
    clear HC71
    by_cases c103 : t934 = true
    · subst c103
      have H1 : (spec_l9Handle.j0 k (!t942) true a1_1 l1_2 ((rd_T82 l0_1 a1_1).f0) ((rd_T82 l0_1 a1_1).f1) t929 t930 t931 t937 t938 t939) = some (r1, r2, r3, r4) := by rw [if_pos rfl] at H; exact H
      clear H
      have H := H1
      clear H1
      have H' := ab_ H
      clear H
      go_wp2
      go_meet
      case rel => exact ⟨_, (!t942), (by first | rfl | (simp; done) | (simp [*]; done)), H', ⟨by first | omega | exact Nat.le_refl _⟩, ⟨by (with_reducible repeat (first | apply Kd.N_alloc | apply Kd.N_drewN | apply Kd.N_drew)); exact Kd.N_mono (Kd.N_far (p := ⟨gb943, 2, none⟩) (Kd.N_far (p := ⟨gb943, 1, none⟩) (Kd.N_far (p := ⟨gb943, 0, none⟩) (Kd.N_mono HO933.out (fun k_ hk => (⟨hk, hk.2.2.2.2.2.2.2⟩ : _ ∧ k_ ≠ gb943))) (fun _ hk => hk.2) (.bool t937)) (fun _ hk => hk.2) (.int .i64 t938)) (fun _ hk => hk.2) (.slice Ao101 t939.length co101)) (fun _ hk => ⟨hk.1.1, ⟨hk.1.2.1, ⟨hk.1.2.2.1, ⟨hk.1.2.2.2.1, ⟨hk.1.2.2.2.2.1, ⟨hk.1.2.2.2.2.2.1, ⟨hk.1.2.2.2.2.2.2.1, hk.1.2.2.2.2.2.2.2⟩⟩⟩⟩⟩⟩⟩)⟩, ⟨by (with_reducible repeat (first | apply Kd.N_alloc | apply Kd.N_drewN | apply Kd.N_drew)); exact Kd.N_mono (Kd.N_far (p := ⟨gb943, 2, none⟩) (Kd.N_far (p := ⟨gb943, 1, none⟩) (Kd.N_far (p := ⟨gb943, 0, none⟩) (Kd.N_mono HO941.out (fun k_ hk => (⟨hk, hk.2.2.2.2.2.2.2⟩ : _ ∧ k_ ≠ gb943))) (fun _ hk => hk.2) (.bool t937)) (fun _ hk => hk.2) (.int .i64 t938)) (fun _ hk => hk.2) (.slice Ao101 t939.length co101)) (fun _ hk => ⟨hk.1.1, ⟨hk.1.2.1, ⟨hk.1.2.2.1, ⟨hk.1.2.2.2.1, ⟨hk.1.2.2.2.2.1, ⟨hk.1.2.2.2.2.2.1, ⟨hk.1.2.2.2.2.2.2.1, hk.1.2.2.2.2.2.2.2⟩⟩⟩⟩⟩⟩⟩)⟩, ⟨by (with_reducible repeat (first | refine ac_ ?_ _ | refine ae_ ?_ | refine ad_ ?_ _)); refine blk_far ?_ NB909_943.out _; (with_reducible repeat (first | refine ac_ ?_ _ | refine ae_ ?_ | refine ad_ ?_ _)); refine blk_far ?_ NB909_943.out _; (with_reducible repeat (first | refine ac_ ?_ _ | refine ae_ ?_ | refine ad_ ?_ _)); refine blk_far ?_ NB909_943.out _; (with_reducible repeat (first | refine ac_ ?_ _ | refine ae_ ?_ | refine ad_ ?_ _)); exact BK909.out⟩, ⟨by (with_reducible repeat (first | refine ac_ ?_ _ | refine ae_ ?_ | refine ad_ ?_ _)); refine blk_far ?_ NB910_943.out _; (with_reducible repeat (first | refine ac_ ?_ _ | refine ae_ ?_ | refine ad_ ?_ _)); refine blk_far ?_ NB910_943.out _; (with_reducible repeat (first | refine ac_ ?_ _ | refine ae_ ?_ | refine ad_ ?_ _)); refine blk_far ?_ NB910_943.out _; (with_reducible repeat (first | refine ac_ ?_ _ | refine ae_ ?_ | refine ad_ ?_ _)); exact BK910.out⟩, ⟨by (with_reducible repeat (first | refine ac_ ?_ _ | refine ae_ ?_ | refine ad_ ?_ _)); refine blk_far ?_ NB911_943.out _; (with_reducible repeat (first | refine ac_ ?_ _ | refine ae_ ?_ | refine ad_ ?_ _)); refine blk_far ?_ NB911_943.out _; (with_reducible repeat (first | refine ac_ ?_ _ | refine ae_ ?_ | refine ad_ ?_ _)); refine blk_far ?_ NB911_943.out _; (with_reducible repeat (first | refine ac_ ?_ _ | refine ae_ ?_ | refine ad_ ?_ _)); exact BK911.out⟩, ⟨by (with_reducible repeat (first | refine ac_ ?_ _ | refine ae_ ?_ | refine ad_ ?_ _)); refine blk_far ?_ NB913_943.out _; (with_reducible repeat (first | refine ac_ ?_ _ | refine ae_ ?_ | refine ad_ ?_ _)); refine blk_far ?_ NB913_943.out _; (with_reducible repeat (first | refine ac_ ?_ _ | refine ae_ ?_ | refine ad_ ?_ _)); refine blk_far ?_ NB913_943.out _; (with_reducible repeat (first | refine ac_ ?_ _ | refine ae_ ?_ | refine ad_ ?_ _)); exact BK913.out⟩, ⟨by (with_reducible repeat (first | refine ac_ ?_ _ | refine ae_ ?_ | refine ad_ ?_ _)); refine blk_far ?_ NB935_943.out _; (with_reducible repeat (first | refine ac_ ?_ _ | refine ae_ ?_ | refine ad_ ?_ _)); refine blk_far ?_ NB935_943.out _; (with_reducible repeat (first | refine ac_ ?_ _ | refine ae_ ?_ | refine ad_ ?_ _)); refine blk_far ?_ NB935_943.out _; (with_reducible repeat (first | refine ac_ ?_ _ | refine ae_ ?_ | refine ad_ ?_ _)); exact BK935.out⟩, ⟨by (with_reducible repeat (first | refine ac_ ?_ _ | refine ae_ ?_ | refine ad_ ?_ _)); refine blk_put (cs := #[.bool t937, .int .i64 t938, .slice none 0 0]) ?_ 2 _ rfl; (with_reducible repeat (first | refine ac_ ?_ _ | refine ae_ ?_ | refine ad_ ?_ _)); refine blk_put (cs := #[.bool t937, .int .i64 0, .slice none 0 0]) ?_ 1 _ rfl; (with_reducible repeat (first | refine ac_ ?_ _ | refine ae_ ?_ | refine ad_ ?_ _)); refine blk_put (cs := #[.bool false, .int .i64 0, .slice none 0 0]) ?_ 0 _ rfl; (with_reducible repeat (first | refine ac_ ?_ _ | refine ae_ ?_ | refine ad_ ?_ _)); exact BK943.out⟩, ⟨by repeat (first | (with_reducible first | exact HB.out | apply ai_ | apply ag_ | apply ah_ | refine af_ ?_ GE909.out | refine af_ ?_ GE910.out | refine af_ ?_ GE911.out | refine af_ ?_ GE913.out | refine af_ ?_ GE935.out | refine af_ ?_ GE943.out) | exact HB.out)⟩⟩
    · replace c103 := Bool.eq_false_iff.mpr c103
      subst c103
      have H1 : (spec_l9Handle.j0 k true true a1_1 l1_2 ((rd_T82 l0_1 a1_1).f0) ((rd_T82 l0_1 a1_1).f1) t929 t930 t931 t937 t938 t939) = some (r1, r2, r3, r4) := by rw [if_neg (show ¬ (false = true) by decide)] at H; exact H
      clear H
      have H := H1
      clear H1
      have H' := ab_ H
      clear H
      go_wp2
      go_meet
      case rel => exact ⟨_, (true), (by first | rfl | (simp; done) | (simp [*]; done)), H', ⟨by first | omega | exact Nat.le_refl _⟩, ⟨by (with_reducible repeat (first | apply Kd.N_alloc | apply Kd.N_drewN | apply Kd.N_drew)); exact Kd.N_mono (Kd.N_far (p := ⟨gb943, 2, none⟩) (Kd.N_far (p := ⟨gb943, 1, none⟩) (Kd.N_far (p := ⟨gb943, 0, none⟩) (Kd.N_mono HO933.out (fun k_ hk => (⟨hk, hk.2.2.2.2.2.2.2⟩ : _ ∧ k_ ≠ gb943))) (fun _ hk => hk.2) (.bool t937)) (fun _ hk => hk.2) (.int .i64 t938)) (fun _ hk => hk.2) (.slice Ao101 t939.length co101)) (fun _ hk => ⟨hk.1.1, ⟨hk.1.2.1, ⟨hk.1.2.2.1, ⟨hk.1.2.2.2.1, ⟨hk.1.2.2.2.2.1, ⟨hk.1.2.2.2.2.2.1, ⟨hk.1.2.2.2.2.2.2.1, hk.1.2.2.2.2.2.2.2⟩⟩⟩⟩⟩⟩⟩)⟩, ⟨by (with_reducible repeat (first | apply Kd.N_alloc | apply Kd.N_drewN | apply Kd.N_drew)); exact Kd.N_mono (Kd.N_far (p := ⟨gb943, 2, none⟩) (Kd.N_far (p := ⟨gb943, 1, none⟩) (Kd.N_far (p := ⟨gb943, 0, none⟩) (Kd.N_mono HO941.out (fun k_ hk => (⟨hk, hk.2.2.2.2.2.2.2⟩ : _ ∧ k_ ≠ gb943))) (fun _ hk => hk.2) (.bool t937)) (fun _ hk => hk.2) (.int .i64 t938)) (fun _ hk => hk.2) (.slice Ao101 t939.length co101)) (fun _ hk => ⟨hk.1.1, ⟨hk.1.2.1, ⟨hk.1.2.2.1, ⟨hk.1.2.2.2.1, ⟨hk.1.2.2.2.2.1, ⟨hk.1.2.2.2.2.2.1, ⟨hk.1.2.2.2.2.2.2.1, hk.1.2.2.2.2.2.2.2⟩⟩⟩⟩⟩⟩⟩)⟩, ⟨by (with_reducible repeat (first | refine ac_ ?_ _ | refine ae_ ?_ | refine ad_ ?_ _)); refine blk_far ?_ NB909_943.out _; (with_reducible repeat (first | refine ac_ ?_ _ | refine ae_ ?_ | refine ad_ ?_ _)); refine blk_far ?_ NB909_943.out _; (with_reducible repeat (first | refine ac_ ?_ _ | refine ae_ ?_ | refine ad_ ?_ _)); refine blk_far ?_ NB909_943.out _; (with_reducible repeat (first | refine ac_ ?_ _ | refine ae_ ?_ | refine ad_ ?_ _)); exact BK909.out⟩, ⟨by (with_reducible repeat (first | refine ac_ ?_ _ | refine ae_ ?_ | refine ad_ ?_ _)); refine blk_far ?_ NB910_943.out _; (with_reducible repeat (first | refine ac_ ?_ _ | refine ae_ ?_ | refine ad_ ?_ _)); refine blk_far ?_ NB910_943.out _; (with_reducible repeat (first | refine ac_ ?_ _ | refine ae_ ?_ | refine ad_ ?_ _)); refine blk_far ?_ NB910_943.out _; (with_reducible repeat (first | refine ac_ ?_ _ | refine ae_ ?_ | refine ad_ ?_ _)); exact BK910.out⟩, ⟨by (with_reducible repeat (first | refine ac_ ?_ _ | refine ae_ ?_ | refine ad_ ?_ _)); refine blk_far ?_ NB911_943.out _; (with_reducible repeat (first | refine ac_ ?_ _ | refine ae_ ?_ | refine ad_ ?_ _)); refine blk_far ?_ NB911_943.out _; (with_reducible repeat (first | refine ac_ ?_ _ | refine ae_ ?_ | refine ad_ ?_ _)); refine blk_far ?_ NB911_943.out _; (with_reducible repeat (first | refine ac_ ?_ _ | refine ae_ ?_ | refine ad_ ?_ _)); exact BK911.out⟩, ⟨by (with_reducible repeat (first | refine ac_ ?_ _ | refine ae_ ?_ | refine ad_ ?_ _)); refine blk_far ?_ NB913_943.out _; (with_reducible repeat (first | refine ac_ ?_ _ | refine ae_ ?_ | refine ad_ ?_ _)); refine blk_far ?_ NB913_943.out _; (with_reducible repeat (first | refine ac_ ?_ _ | refine ae_ ?_ | refine ad_ ?_ _)); refine blk_far ?_ NB913_943.out _; (with_reducible repeat (first | refine ac_ ?_ _ | refine ae_ ?_ | refine ad_ ?_ _)); exact BK913.out⟩, ⟨by (with_reducible repeat (first | refine ac_ ?_ _ | refine ae_ ?_ | refine ad_ ?_ _)); refine blk_far ?_ NB935_943.out _; (with_reducible repeat (first | refine ac_ ?_ _ | refine ae_ ?_ | refine ad_ ?_ _)); refine blk_far ?_ NB935_943.out _; (with_reducible repeat (first | refine ac_ ?_ _ | refine ae_ ?_ | refine ad_ ?_ _)); refine blk_far ?_ NB935_943.out _; (with_reducible repeat (first | refine ac_ ?_ _ | refine ae_ ?_ | refine ad_ ?_ _)); exact BK935.out⟩, ⟨by (with_reducible repeat (first | refine ac_ ?_ _ | refine ae_ ?_ | refine ad_ ?_ _)); refine blk_put (cs := #[.bool t937, .int .i64 t938, .slice none 0 0]) ?_ 2 _ rfl; (with_reducible repeat (first | refine ac_ ?_ _ | refine ae_ ?_ | refine ad_ ?_ _)); refine blk_put (cs := #[.bool t937, .int .i64 0, .slice none 0 0]) ?_ 1 _ rfl; (with_reducible repeat (first | refine ac_ ?_ _ | refine ae_ ?_ | refine ad_ ?_ _)); refine blk_put (cs := #[.bool false, .int .i64 0, .slice none 0 0]) ?_ 0 _ rfl; (with_reducible repeat (first | refine ac_ ?_ _ | refine ae_ ?_ | refine ad_ ?_ _)); exact BK943.out⟩, ⟨by repeat (first | (with_reducible first | exact HB.out | apply ai_ | apply ag_ | apply ah_ | refine af_ ?_ GE909.out | refine af_ ?_ GE910.out | refine af_ ?_ GE911.out | refine af_ ?_ GE913.out | refine af_ ?_ GE935.out | refine af_ ?_ GE943.out) | exact HB.out)⟩⟩
  case rest =>
    clear HC71
    try clear c1
    try clear p2
    try clear c8
    try clear c9
    try clear p9
    try clear q9
    try clear hx9
    try clear qi9
    try clear c10
    try clear c87
    try clear c92
    try clear c93
    try clear p93
    try clear q93
    try clear hx93
    try clear qi93
    try clear c103
    try clear hx936_0
    try clear hx936_1
    try clear hx936_2
    try clear p936
    try clear q936
    obtain ⟨kq, x78_70, rfl, HA, HJ70, HO_936002, HO_944002, BK909, BK910, BK911, BK913, BK935, BK943, HB⟩ := hcut
    cases kq with
    | zero => exact absurd HA.out (by simp [spec_l9Handle.j0])
    | succ kj70 =>
      have H := HA.out
      clear HA
      simp only [spec_l9Handle.j0] at H
      by_cases c104 : x78_70 = true
      · subst c104
        have H1 : (some (false, 0, ([] : List (S93)), false)) = some (r1, r2, r3, r4) := by rw [if_pos rfl] at H; exact H
        clear H
        have H := H1
        clear H1
        simp only [Option.some.injEq, Prod.mk.injEq] at H
        obtain ⟨rfl, rfl, rfl, rfl⟩ := H
        have hnb105 := NB911_909.out
        have hnc105 := NB909_911.out
        have hnb106 := NB911_910.out
        have hnc106 := NB910_911.out
        have hnb107 := NB911_913.out
        have hnc107 := NB913_911.out
        have hnb108 := NB911_935.out
        have hnc108 := NB935_911.out
        have hnb109 := NB911_943.out
        have hnc109 := NB943_911.out
        have hcz110_0 : wc.cell? ⟨gb911, 0, none⟩ = some (.bool false) := (an_ BK911.out 0).trans rfl
        have hcz110_1 : wc.cell? ⟨gb911, 1, none⟩ = some (.int .i64 0) := (an_ BK911.out 1).trans rfl
        have hcz110_2 : wc.cell? ⟨gb911, 2, none⟩ = some (.slice none 0 0) := (an_ BK911.out 2).trans rfl
        have hfz110_0 := am_ BK911.out 0
        have hfz110_1 := am_ BK911.out 1
        have hfz110_2 := am_ BK911.out 2
        go_wp2
        refine bodyPost_ret (results_ct rfl _ _ gb911 93 #[.bool false, .int .i64 0, .slice none 0 0] (0, 0) _ rfl (by (with_reducible repeat (first | refine ac_ ?_ _ | refine ae_ ?_ | refine ad_ ?_ _)); refine blk_put (cs := #[.bool false, .int .i64 0, .slice none 0 0]) ?_ 2 _ rfl; (with_reducible repeat (first | refine ac_ ?_ _ | refine ae_ ?_ | refine ad_ ?_ _)); refine blk_put (cs := #[.bool false, .int .i64 0, .slice none 0 0]) ?_ 1 _ rfl; (with_reducible repeat (first | refine ac_ ?_ _ | refine ae_ ?_ | refine ad_ ?_ _)); refine blk_put (cs := #[.bool false, .int .i64 0, .slice none 0 0]) ?_ 0 _ rfl; (with_reducible repeat (first | refine ac_ ?_ _ | refine ae_ ?_ | refine ad_ ?_ _)); exact BK911.out) Try.underlying93 rfl (by kernel_rfl)) rfl ?_
        exact ⟨_, by first | rfl | (simp [errW_none, errW_some] <;> rfl) | (simp [*, errW_none, errW_some] <;> rfl), by first | exact Kd.R_nil _ _ _ _ _ | exact Kd.N_nil _ _ _ _ _ | exact Kd.V_nil _ _ _ _ _ | exact Kd.Q_nil _ _ _ _ _ | exact Kd.S_nil _ _ _ _ _, by repeat (first | (with_reducible first | exact HB.out | apply ai_ | apply ag_ | apply ah_ | refine af_ ?_ GE909.out | refine af_ ?_ GE910.out | refine af_ ?_ GE911.out | refine af_ ?_ GE913.out | refine af_ ?_ GE935.out | refine af_ ?_ GE943.out) | exact HB.out)⟩
      · replace c104 := Bool.eq_false_iff.mpr c104
        subst c104
        have H1 : (if ((rd_T82 l0_1 a1_1).f0) = 3 then ((spec_l9Size.f kj70 t929 t930 t931).bind fun t944 => ((spec_l9Leaves.f kj70 t929 t930 t931).bind fun t945 => ((spec_l9Size.f kj70 t937 t938 t939).bind fun t946 => (if (wrap64 (t944 + (wrap64 (t945 * (wrap64 (t946 - 1)))))) > 60 then (some (false, 0, ([] : List (S93)), false)) else ((spec_l9With.f kj70 t929 t930 t931 t937 t938 t939).bind fun bt947 => (some (bt947.1, bt947.2.1, bt947.2.2, true))))))) else ((some (([(⟨t929, t930, t931⟩ : S93), (⟨t937, t938, t939⟩ : S93)] : List (S93)) : List (S93))).bind fun y952 => ((spec_l9Size.f kj70 true a1_1 y952).bind fun t956 => (some (true, a1_1, y952, decide (t956 ≤ 60)))))) = some (r1, r2, r3, r4) := by rw [if_neg (show ¬ (false = true) by decide)] at H; exact H
        clear H
        have H := H1
        clear H1
        by_cases c111 : ((rd_T82 l0_1 a1_1).f0) = 3
        · rw [if_pos c111] at H
          have c111b0 : (((rd_T82 l0_1 a1_1).f0) == 3) = true := beq_iff_eq.mpr c111
          have c111b1 : (((rd_T82 l0_1 a1_1).f0) != 3) = false := bne_eq_false_iff_eq.mpr c111
          clear c111
          replace H := Option.bind_eq_some_iff.mp H
          obtain ⟨t944, A1120, H⟩ := H
          replace H : ((spec_l9Leaves.f kj70 t929 t930 t931).bind fun t945 => ((spec_l9Size.f kj70 t937 t938 t939).bind fun t946 => (if (wrap64 (t944 + (wrap64 (t945 * (wrap64 (t946 - 1)))))) > 60 then (some (false, 0, ([] : List (S93)), false)) else ((spec_l9With.f kj70 t929 t930 t931 t937 t938 t939).bind fun bt947 => (some (bt947.1, bt947.2.1, bt947.2.2, true)))))) = some (r1, r2, r3, r4) := H
          have A112 := ab_ A1120
          clear A1120
          replace H := Option.bind_eq_some_iff.mp H
          obtain ⟨t945, A1130, H⟩ := H
          replace H : ((spec_l9Size.f kj70 t937 t938 t939).bind fun t946 => (if (wrap64 (t944 + (wrap64 (t945 * (wrap64 (t946 - 1)))))) > 60 then (some (false, 0, ([] : List (S93)), false)) else ((spec_l9With.f kj70 t929 t930 t931 t937 t938 t939).bind fun bt947 => (some (bt947.1, bt947.2.1, bt947.2.2, true))))) = some (r1, r2, r3, r4) := H
          have A113 := ab_ A1130
          clear A1130
          replace H := Option.bind_eq_some_iff.mp H
          obtain ⟨t946, A1140, H⟩ := H
          replace H : (if (wrap64 (t944 + (wrap64 (t945 * (wrap64 (t946 - 1)))))) > 60 then (some (false, 0, ([] : List (S93)), false)) else ((spec_l9With.f kj70 t929 t930 t931 t937 t938 t939).bind fun bt947 => (some (bt947.1, bt947.2.1, bt947.2.2, true)))) = some (r1, r2, r3, r4) := H
          have A114 := ab_ A1140
          clear A1140
          by_cases c115 : (wrap64 (t944 + (wrap64 (t945 * (wrap64 (t946 - 1)))))) > 60
          · rw [if_pos c115] at H
            have c115b0 : decide (60 < (wrap64 (t944 + (wrap64 (t945 * (wrap64 (t946 - 1))))))) = true := at_ c115
            clear c115
            simp only [Option.some.injEq, Prod.mk.injEq] at H
            obtain ⟨rfl, rfl, rfl, rfl⟩ := H
            have hnb116 := NB913_909.out
            have hnc116 := NB909_913.out
            have hnb117 := NB913_910.out
            have hnc117 := NB910_913.out
            have hnb118 := NB913_911.out
            have hnc118 := NB911_913.out
            have hnb119 := NB913_935.out
            have hnc119 := NB935_913.out
            have hnb120 := NB913_943.out
            have hnc120 := NB943_913.out
            have hcz121_0 : wc.cell? ⟨gb913, 0, none⟩ = some (.int .i64 ((rd_T82 l0_1 a1_1).f0)) := (an_ BK913.out 0).trans rfl
            have hcz121_1 : wc.cell? ⟨gb913, 1, none⟩ = some (.int .i64 ((rd_T82 l0_1 a1_1).f1)) := (an_ BK913.out 1).trans rfl
            have hfz121_0 := am_ BK913.out 0
            have hfz121_1 := am_ BK913.out 1
            try go_wp2
            have n0_ := ab_ (Kd.N_drew HO_936002.out)
            have n1_ := ab_ (Kd.N_drew HO_944002.out)
            have n2_ := ab_ (ae_ BK909.out)
            have n3_ := ab_ (ae_ BK910.out)
            have n4_ := ab_ (ae_ BK911.out)
            have n5_ := ab_ (ae_ BK913.out)
            have n6_ := ab_ (ae_ BK935.out)
            have n7_ := ab_ (ae_ BK943.out)
            have n8_ := ab_ (ah_ HB.out)
            clear HO_936002
            clear HO_944002
            clear BK909
            clear BK910
            clear BK911
            clear BK913
            clear BK935
            clear BK943
            clear HB
            have HO_936002 := n0_
            have HO_944002 := n1_
            have BK909 := n2_
            have BK910 := n3_
            have BK911 := n4_
            have BK913 := n5_
            have BK935 := n6_
            have BK943 := n7_
            have HB := n8_
            clear n0_ n1_ n2_ n3_ n4_ n5_ n6_ n7_ n8_
            refine start_ (n := 10) (S := fun w' => w'.cell? ⟨gb935, 0, none⟩ = some (.bool t929) ∧ w'.cell? ⟨gb935, 1, none⟩ = some (.int .i64 t930) ∧ w'.cell? ⟨gb935, 2, none⟩ = some (.slice Ao92 t931.length co92) ∧ w'.cell? ⟨gb943, 0, none⟩ = some (.bool t937) ∧ w'.cell? ⟨gb943, 1, none⟩ = some (.int .i64 t938) ∧ w'.cell? ⟨gb943, 2, none⟩ = some (.slice Ao101 t939.length co101)) (ds := []) #[false, false, false, false, false, false, false, false, false, false] (by kernel_rfl) rfl rfl ⟨(an_ BK935.out 0).trans rfl, (an_ BK935.out 1).trans rfl, (an_ BK935.out 2).trans rfl, (an_ BK943.out 0).trans rfl, (an_ BK943.out 1).trans rfl, (an_ BK943.out 2).trans rfl⟩ (fun hHeld => ?_); refine with_tabW spec_l9Handle.tab16 spec_l9Handle.bits16 (fun HT_ HW_ => ?_)
            generalize wc.drew = w122 at HO_936002 HO_944002 BK909 BK910 BK911 BK913 BK935 BK943 HB hHeld ⊢
            refine take_ (i := 0) (N := some 83) (v := ?_) (a' := ?_) #[true, false, false, false, false, false, false, false, false, false] rfl rfl (take_ofW HT_.out HW_.out (by kernel_rfl)) (fun _ _ _ h => h) (Or.inl ⟨by rfl, ?_⟩) hHeld ?_ ?_
            rotate_left
            · rintro w' ⟨s0, s1, s2, s3, s4, s5⟩
              go_simp
              with_reducible rfl
            rotate_left
            · simp only [Act.put, List.setIfInBounds_toArray, List.set_cons_zero, List.set_cons_succ, i64_w, i32_w]
              rfl
            refine take_ (i := 2) (N := some 85) (v := ?_) (a' := ?_) #[true, false, true, false, false, false, false, false, false, false] rfl rfl (take_ofW HT_.out HW_.out (by kernel_rfl)) (fun _ _ _ h => h) (Or.inl ⟨by rfl, ?_⟩) hHeld ?_ ?_
            rotate_left
            · rintro w' ⟨s0, s1, s2, s3, s4, s5⟩
              go_simp
              with_reducible rfl
            rotate_left
            · simp only [Act.put, List.setIfInBounds_toArray, List.set_cons_zero, List.set_cons_succ, i64_w, i32_w]
              rfl
            refine take_ (i := 4) (N := some 87) (v := ?_) (a' := ?_) #[true, false, true, false, true, false, false, false, false, false] rfl rfl (take_ofW HT_.out HW_.out (by kernel_rfl)) (fun _ _ _ h => h) (Or.inl ⟨by rfl, ?_⟩) hHeld ?_ ?_
            rotate_left
            · rintro w' ⟨s0, s1, s2, s3, s4, s5⟩
              go_simp
              with_reducible rfl
            rotate_left
            · simp only [Act.put, List.setIfInBounds_toArray, List.set_cons_zero, List.set_cons_succ, i64_w, i32_w]
              rfl
            refine one_ (i := 1) (N := some 84) #[true, true, true, false, true, false, false, false, false, false] rfl rfl (one_of HT_.out (by kernel_rfl)) (by decide) (fun K hK => ?_)
            refine goes_ Try.func99 (by kernel_rfl) rfl #[.agg #[.bool t929, .int .i64 t930, .slice Ao92 t931.length co92]] (by rfl) rfl rfl (by (try simp only [List.map_toArray, List.map_cons, List.map_nil]); first | done | rfl | (simp only [List.length_drop, List.length_take]; rfl)) ?_
            with_reducible refine (spec_l9Size.calls kj70 t929 t930 _ _ t931 t944 _ ?side1 ?side2 A112.out).mono ?_
            (case side1 => repeat (first | exact (Kd.N_reads' HO_936002.out).2.2 | (with_reducible refine ar_ ?_ _) | (with_reducible refine as_ ?_ _) | (with_reducible refine Kd.C_drew ?_)))
            (case side2 => exact (Kd.N_reads' HO_936002.out).2.1)
            rintro e w123 ⟨rfl, hb⟩
            refine ⟨_, rfl, ?_⟩
            have n0_ := ab_ (Kd.N_below (by (with_reducible repeat (first | apply Kd.N_alloc | apply Kd.N_drewN | apply Kd.N_drew)); exact HO_936002.out) hb)
            have n1_ := ab_ (Kd.N_below (by (with_reducible repeat (first | apply Kd.N_alloc | apply Kd.N_drewN | apply Kd.N_drew)); exact HO_944002.out) hb)
            have n2_ := ab_ (blk_below (g := gb909) (o := .cells #[.int .i64 a0_0, .slice (some ad912) l0_1.length c0_1] 29 (0, 0)) (by (with_reducible repeat (first | refine ac_ ?_ _ | refine ae_ ?_ | refine ad_ ?_ _)); exact BK909.out) hb)
            have n3_ := ab_ (blk_below (g := gb910) (o := .cells #[.bool true, .int .i64 a1_1, .slice (some ad928) l1_2.length c1_2] 93 (0, 0)) (by (with_reducible repeat (first | refine ac_ ?_ _ | refine ae_ ?_ | refine ad_ ?_ _)); exact BK910.out) hb)
            have n4_ := ab_ (blk_below (g := gb911) (o := .cells #[.bool false, .int .i64 0, .slice none 0 0] 93 (0, 0)) (by (with_reducible repeat (first | refine ac_ ?_ _ | refine ae_ ?_ | refine ad_ ?_ _)); exact BK911.out) hb)
            have n5_ := ab_ (blk_below (g := gb913) (o := .cells #[.int .i64 ((rd_T82 l0_1 a1_1).f0), .int .i64 ((rd_T82 l0_1 a1_1).f1)] 82 (0, 0)) (by (with_reducible repeat (first | refine ac_ ?_ _ | refine ae_ ?_ | refine ad_ ?_ _)); exact BK913.out) hb)
            have n6_ := ab_ (blk_below (g := gb935) (o := .cells #[.bool t929, .int .i64 t930, .slice Ao92 t931.length co92] 93 (0, 0)) (by (with_reducible repeat (first | refine ac_ ?_ _ | refine ae_ ?_ | refine ad_ ?_ _)); exact BK935.out) hb)
            have n7_ := ab_ (blk_below (g := gb943) (o := .cells #[.bool t937, .int .i64 t938, .slice Ao101 t939.length co101] 93 (0, 0)) (by (with_reducible repeat (first | refine ac_ ?_ _ | refine ae_ ?_ | refine ad_ ?_ _)); exact BK943.out) hb)
            have n8_ := ab_ (au_ (by repeat (first | (with_reducible first | exact HB.out | apply ai_ | apply ag_ | apply ah_ | refine af_ ?_ GE909.out | refine af_ ?_ GE910.out | refine af_ ?_ GE911.out | refine af_ ?_ GE913.out | refine af_ ?_ GE935.out | refine af_ ?_ GE943.out) | exact HB.out)) hb)
            clear HO_936002
            clear HO_944002
            clear BK909
            clear BK910
            clear BK911
            clear BK913
            clear BK935
            clear BK943
            clear HB
            have HO_936002 := n0_
            have HO_944002 := n1_
            have BK909 := n2_
            have BK910 := n3_
            have BK911 := n4_
            have BK913 := n5_
            have BK935 := n6_
            have BK943 := n7_
            have HB := n8_
            clear n0_ n1_ n2_ n3_ n4_ n5_ n6_ n7_ n8_
            (try clear hb)
            (try clear hb2)
            (try clear hk)
            (try clear hi)
            refine hK.out _ _ ⟨(an_ BK935.out 0).trans rfl, (an_ BK935.out 1).trans rfl, (an_ BK935.out 2).trans rfl, (an_ BK943.out 0).trans rfl, (an_ BK943.out 1).trans rfl, (an_ BK943.out 2).trans rfl⟩ (fun hHeld => ?_)
            clear hK K
            refine norm_ (a' := ?_) ?_ ?_
            rotate_left
            · show Act.put _ (some 84) _ = _
              simp only [Act.put, List.setIfInBounds_toArray, List.set_cons_zero, List.set_cons_succ, i64_w, i32_w]
              rfl
            refine one_ (i := 3) (N := some 86) #[true, true, true, true, true, false, false, false, false, false] rfl rfl (one_of HT_.out (by kernel_rfl)) (by decide) (fun K hK => ?_)
            refine goes_ Try.func100 (by kernel_rfl) rfl #[.agg #[.bool t929, .int .i64 t930, .slice Ao92 t931.length co92]] (by rfl) rfl rfl (by (try simp only [List.map_toArray, List.map_cons, List.map_nil]); first | done | rfl | (simp only [List.length_drop, List.length_take]; rfl)) ?_
            with_reducible refine (spec_l9Leaves.calls kj70 t929 t930 _ _ t931 t945 _ ?side1 ?side2 A113.out).mono ?_
            (case side1 => repeat (first | exact (Kd.N_reads' HO_936002.out).2.2 | (with_reducible refine ar_ ?_ _) | (with_reducible refine as_ ?_ _) | (with_reducible refine Kd.C_drew ?_)))
            (case side2 => exact (Kd.N_reads' HO_936002.out).2.1)
            rintro e w124 ⟨rfl, hb⟩
            refine ⟨_, rfl, ?_⟩
            have n0_ := ab_ (Kd.N_below (by (with_reducible repeat (first | apply Kd.N_alloc | apply Kd.N_drewN | apply Kd.N_drew)); exact HO_936002.out) hb)
            have n1_ := ab_ (Kd.N_below (by (with_reducible repeat (first | apply Kd.N_alloc | apply Kd.N_drewN | apply Kd.N_drew)); exact HO_944002.out) hb)
            have n2_ := ab_ (blk_below (g := gb909) (o := .cells #[.int .i64 a0_0, .slice (some ad912) l0_1.length c0_1] 29 (0, 0)) (by (with_reducible repeat (first | refine ac_ ?_ _ | refine ae_ ?_ | refine ad_ ?_ _)); exact BK909.out) hb)
            have n3_ := ab_ (blk_below (g := gb910) (o := .cells #[.bool true, .int .i64 a1_1, .slice (some ad928) l1_2.length c1_2] 93 (0, 0)) (by (with_reducible repeat (first | refine ac_ ?_ _ | refine ae_ ?_ | refine ad_ ?_ _)); exact BK910.out) hb)
            have n4_ := ab_ (blk_below (g := gb911) (o := .cells #[.bool false, .int .i64 0, .slice none 0 0] 93 (0, 0)) (by (with_reducible repeat (first | refine ac_ ?_ _ | refine ae_ ?_ | refine ad_ ?_ _)); exact BK911.out) hb)
            have n5_ := ab_ (blk_below (g := gb913) (o := .cells #[.int .i64 ((rd_T82 l0_1 a1_1).f0), .int .i64 ((rd_T82 l0_1 a1_1).f1)] 82 (0, 0)) (by (with_reducible repeat (first | refine ac_ ?_ _ | refine ae_ ?_ | refine ad_ ?_ _)); exact BK913.out) hb)
            have n6_ := ab_ (blk_below (g := gb935) (o := .cells #[.bool t929, .int .i64 t930, .slice Ao92 t931.length co92] 93 (0, 0)) (by (with_reducible repeat (first | refine ac_ ?_ _ | refine ae_ ?_ | refine ad_ ?_ _)); exact BK935.out) hb)
            have n7_ := ab_ (blk_below (g := gb943) (o := .cells #[.bool t937, .int .i64 t938, .slice Ao101 t939.length co101] 93 (0, 0)) (by (with_reducible repeat (first | refine ac_ ?_ _ | refine ae_ ?_ | refine ad_ ?_ _)); exact BK943.out) hb)
            have n8_ := ab_ (au_ (by repeat (first | (with_reducible first | exact HB.out | apply ai_ | apply ag_ | apply ah_ | refine af_ ?_ GE909.out | refine af_ ?_ GE910.out | refine af_ ?_ GE911.out | refine af_ ?_ GE913.out | refine af_ ?_ GE935.out | refine af_ ?_ GE943.out) | exact HB.out)) hb)
            clear HO_936002
            clear HO_944002
            clear BK909
            clear BK910
            clear BK911
            clear BK913
            clear BK935
            clear BK943
            clear HB
            have HO_936002 := n0_
            have HO_944002 := n1_
            have BK909 := n2_
            have BK910 := n3_
            have BK911 := n4_
            have BK913 := n5_
            have BK935 := n6_
            have BK943 := n7_
            have HB := n8_
            clear n0_ n1_ n2_ n3_ n4_ n5_ n6_ n7_ n8_
            (try clear hb)
            (try clear hb2)
            (try clear hk)
            (try clear hi)
            refine hK.out _ _ ⟨(an_ BK935.out 0).trans rfl, (an_ BK935.out 1).trans rfl, (an_ BK935.out 2).trans rfl, (an_ BK943.out 0).trans rfl, (an_ BK943.out 1).trans rfl, (an_ BK943.out 2).trans rfl⟩ (fun hHeld => ?_)
            clear hK K
            refine norm_ (a' := ?_) ?_ ?_
            rotate_left
            · show Act.put _ (some 86) _ = _
              simp only [Act.put, List.setIfInBounds_toArray, List.set_cons_zero, List.set_cons_succ, i64_w, i32_w]
              rfl
            refine one_ (i := 5) (N := some 88) #[true, true, true, true, true, true, false, false, false, false] rfl rfl (one_of HT_.out (by kernel_rfl)) (by decide) (fun K hK => ?_)
            refine goes_ Try.func99 (by kernel_rfl) rfl #[.agg #[.bool t937, .int .i64 t938, .slice Ao101 t939.length co101]] (by rfl) rfl rfl (by (try simp only [List.map_toArray, List.map_cons, List.map_nil]); first | done | rfl | (simp only [List.length_drop, List.length_take]; rfl)) ?_
            with_reducible refine (spec_l9Size.calls kj70 t937 t938 _ _ t939 t946 _ ?side1 ?side2 A114.out).mono ?_
            (case side1 => repeat (first | exact (Kd.N_reads' HO_944002.out).2.2 | (with_reducible refine ar_ ?_ _) | (with_reducible refine as_ ?_ _) | (with_reducible refine Kd.C_drew ?_)))
            (case side2 => exact (Kd.N_reads' HO_944002.out).2.1)
            rintro e w125 ⟨rfl, hb⟩
            refine ⟨_, rfl, ?_⟩
            have n0_ := ab_ (Kd.N_below (by (with_reducible repeat (first | apply Kd.N_alloc | apply Kd.N_drewN | apply Kd.N_drew)); exact HO_936002.out) hb)
            have n1_ := ab_ (Kd.N_below (by (with_reducible repeat (first | apply Kd.N_alloc | apply Kd.N_drewN | apply Kd.N_drew)); exact HO_944002.out) hb)
            have n2_ := ab_ (blk_below (g := gb909) (o := .cells #[.int .i64 a0_0, .slice (some ad912) l0_1.length c0_1] 29 (0, 0)) (by (with_reducible repeat (first | refine ac_ ?_ _ | refine ae_ ?_ | refine ad_ ?_ _)); exact BK909.out) hb)
            have n3_ := ab_ (blk_below (g := gb910) (o := .cells #[.bool true, .int .i64 a1_1, .slice (some ad928) l1_2.length c1_2] 93 (0, 0)) (by (with_reducible repeat (first | refine ac_ ?_ _ | refine ae_ ?_ | refine ad_ ?_ _)); exact BK910.out) hb)
            have n4_ := ab_ (blk_below (g := gb911) (o := .cells #[.bool false, .int .i64 0, .slice none 0 0] 93 (0, 0)) (by (with_reducible repeat (first | refine ac_ ?_ _ | refine ae_ ?_ | refine ad_ ?_ _)); exact BK911.out) hb)
            have n5_ := ab_ (blk_below (g := gb913) (o := .cells #[.int .i64 ((rd_T82 l0_1 a1_1).f0), .int .i64 ((rd_T82 l0_1 a1_1).f1)] 82 (0, 0)) (by (with_reducible repeat (first | refine ac_ ?_ _ | refine ae_ ?_ | refine ad_ ?_ _)); exact BK913.out) hb)
            have n6_ := ab_ (blk_below (g := gb935) (o := .cells #[.bool t929, .int .i64 t930, .slice Ao92 t931.length co92] 93 (0, 0)) (by (with_reducible repeat (first | refine ac_ ?_ _ | refine ae_ ?_ | refine ad_ ?_ _)); exact BK935.out) hb)
            have n7_ := ab_ (blk_below (g := gb943) (o := .cells #[.bool t937, .int .i64 t938, .slice Ao101 t939.length co101] 93 (0, 0)) (by (with_reducible repeat (first | refine ac_ ?_ _ | refine ae_ ?_ | refine ad_ ?_ _)); exact BK943.out) hb)
            have n8_ := ab_ (au_ (by repeat (first | (with_reducible first | exact HB.out | apply ai_ | apply ag_ | apply ah_ | refine af_ ?_ GE909.out | refine af_ ?_ GE910.out | refine af_ ?_ GE911.out | refine af_ ?_ GE913.out | refine af_ ?_ GE935.out | refine af_ ?_ GE943.out) | exact HB.out)) hb)
            clear HO_936002
            clear HO_944002
            clear BK909
            clear BK910
            clear BK911
            clear BK913
            clear BK935
            clear BK943
            clear HB
            have HO_936002 := n0_
            have HO_944002 := n1_
            have BK909 := n2_
            have BK910 := n3_
            have BK911 := n4_
            have BK913 := n5_
            have BK935 := n6_
            have BK943 := n7_
            have HB := n8_
            clear n0_ n1_ n2_ n3_ n4_ n5_ n6_ n7_ n8_
            (try clear hb)
            (try clear hb2)
            (try clear hk)
            (try clear hi)
            refine hK.out _ _ ⟨(an_ BK935.out 0).trans rfl, (an_ BK935.out 1).trans rfl, (an_ BK935.out 2).trans rfl, (an_ BK943.out 0).trans rfl, (an_ BK943.out 1).trans rfl, (an_ BK943.out 2).trans rfl⟩ (fun hHeld => ?_)
            clear hK K
            refine norm_ (a' := ?_) ?_ ?_
            rotate_left
            · show Act.put _ (some 88) _ = _
              simp only [Act.put, List.setIfInBounds_toArray, List.set_cons_zero, List.set_cons_succ, i64_w, i32_w]
              rfl
            refine pure_ (i := 6) (N := some 89) (v := ?_) (a' := ?_) #[true, true, true, true, true, true, true, false, false, false] rfl rfl (any_of HT_.out (by kernel_rfl)) (fun _ _ _ h => h) (Or.inl ⟨by rfl, ?_⟩) ?_ ?_
            rotate_left
            · intro w'
              go_simp
              with_reducible rfl
            rotate_left
            · simp only [Act.put, List.setIfInBounds_toArray, List.set_cons_zero, List.set_cons_succ, i64_w, i32_w]
              rfl
            refine pure_ (i := 7) (N := some 90) (v := ?_) (a' := ?_) #[true, true, true, true, true, true, true, true, false, false] rfl rfl (any_of HT_.out (by kernel_rfl)) (fun _ _ _ h => h) (Or.inl ⟨by rfl, ?_⟩) ?_ ?_
            rotate_left
            · intro w'
              go_simp
              with_reducible rfl
            rotate_left
            · simp only [Act.put, List.setIfInBounds_toArray, List.set_cons_zero, List.set_cons_succ, i64_w, i32_w]
              rfl
            refine pure_ (i := 8) (N := some 91) (v := ?_) (a' := ?_) #[true, true, true, true, true, true, true, true, true, false] rfl rfl (any_of HT_.out (by kernel_rfl)) (fun _ _ _ h => h) (Or.inl ⟨by rfl, ?_⟩) ?_ ?_
            rotate_left
            · intro w'
              go_simp
              with_reducible rfl
            rotate_left
            · simp only [Act.put, List.setIfInBounds_toArray, List.set_cons_zero, List.set_cons_succ, i64_w, i32_w]
              rfl
            refine pure_ (i := 9) (N := some 92) (v := ?_) (a' := ?_) #[true, true, true, true, true, true, true, true, true, true] rfl rfl (any_of HT_.out (by kernel_rfl)) (fun _ _ _ h => h) (Or.inl ⟨by rfl, ?_⟩) ?_ ?_
            rotate_left
            · intro w'
              go_simp
              with_reducible rfl
            rotate_left
            · simp only [Act.put, List.setIfInBounds_toArray, List.set_cons_zero, List.set_cons_succ, i64_w, i32_w]
              rfl
            refine done_ (done_of HT_.out (by kernel_rfl)) ?_
            have hnb126 := NB911_909.out
            have hnc126 := NB909_911.out
            have hnb127 := NB911_910.out
            have hnc127 := NB910_911.out
            have hnb128 := NB911_935.out
            have hnc128 := NB935_911.out
            have hnb129 := NB911_943.out
            have hnc129 := NB943_911.out
            have hcz130_0 : w125.cell? ⟨gb911, 0, none⟩ = some (.bool false) := (an_ BK911.out 0).trans rfl
            have hcz130_1 : w125.cell? ⟨gb911, 1, none⟩ = some (.int .i64 0) := (an_ BK911.out 1).trans rfl
            have hcz130_2 : w125.cell? ⟨gb911, 2, none⟩ = some (.slice none 0 0) := (an_ BK911.out 2).trans rfl
            have hfz130_0 := am_ BK911.out 0
            have hfz130_1 := am_ BK911.out 1
            have hfz130_2 := am_ BK911.out 2
            try go_wp2
            refine bodyPost_ret (results_ct rfl _ _ gb911 93 #[.bool false, .int .i64 0, .slice none 0 0] (0, 0) _ rfl (by (with_reducible repeat (first | refine ac_ ?_ _ | refine ae_ ?_ | refine ad_ ?_ _)); refine blk_put (cs := #[.bool false, .int .i64 0, .slice none 0 0]) ?_ 2 _ rfl; (with_reducible repeat (first | refine ac_ ?_ _ | refine ae_ ?_ | refine ad_ ?_ _)); refine blk_put (cs := #[.bool false, .int .i64 0, .slice none 0 0]) ?_ 1 _ rfl; (with_reducible repeat (first | refine ac_ ?_ _ | refine ae_ ?_ | refine ad_ ?_ _)); refine blk_put (cs := #[.bool false, .int .i64 0, .slice none 0 0]) ?_ 0 _ rfl; (with_reducible repeat (first | refine ac_ ?_ _ | refine ae_ ?_ | refine ad_ ?_ _)); exact BK911.out) Try.underlying93 rfl (by kernel_rfl)) rfl ?_
            exact ⟨_, by first | rfl | (simp [errW_none, errW_some] <;> rfl) | (simp [*, errW_none, errW_some] <;> rfl), by first | exact Kd.R_nil _ _ _ _ _ | exact Kd.N_nil _ _ _ _ _ | exact Kd.V_nil _ _ _ _ _ | exact Kd.Q_nil _ _ _ _ _ | exact Kd.S_nil _ _ _ _ _, by repeat (first | (with_reducible first | exact HB.out | apply ai_ | apply ag_ | apply ah_ | refine af_ ?_ GE909.out | refine af_ ?_ GE910.out | refine af_ ?_ GE911.out | refine af_ ?_ GE913.out | refine af_ ?_ GE935.out | refine af_ ?_ GE943.out) | exact HB.out)⟩
          · rw [if_neg c115] at H
            have c115b0 : decide (60 < (wrap64 (t944 + (wrap64 (t945 * (wrap64 (t946 - 1))))))) = false := decide_eq_false c115
            clear c115
            replace H := Option.bind_eq_some_iff.mp H
            obtain ⟨⟨t947, t948, t949⟩, A1310, H⟩ := H
            replace H : (some (t947, t948, t949, true)) = some (r1, r2, r3, r4) := H
            have A131 := ab_ A1310
            clear A1310
            simp only [Option.some.injEq, Prod.mk.injEq] at H
            obtain ⟨rfl, rfl, rfl, rfl⟩ := H
            have hnb132 := NB913_909.out
            have hnc132 := NB909_913.out
            have hnb133 := NB913_910.out
            have hnc133 := NB910_913.out
            have hnb134 := NB913_911.out
            have hnc134 := NB911_913.out
            have hnb135 := NB913_935.out
            have hnc135 := NB935_913.out
            have hnb136 := NB913_943.out
            have hnc136 := NB943_913.out
            have hcz137_0 : wc.cell? ⟨gb913, 0, none⟩ = some (.int .i64 ((rd_T82 l0_1 a1_1).f0)) := (an_ BK913.out 0).trans rfl
            have hcz137_1 : wc.cell? ⟨gb913, 1, none⟩ = some (.int .i64 ((rd_T82 l0_1 a1_1).f1)) := (an_ BK913.out 1).trans rfl
            have hfz137_0 := am_ BK913.out 0
            have hfz137_1 := am_ BK913.out 1
            try go_wp2
            have n0_ := ab_ (Kd.N_drew HO_936002.out)
            have n1_ := ab_ (Kd.N_drew HO_944002.out)
            have n2_ := ab_ (ae_ BK909.out)
            have n3_ := ab_ (ae_ BK910.out)
            have n4_ := ab_ (ae_ BK911.out)
            have n5_ := ab_ (ae_ BK913.out)
            have n6_ := ab_ (ae_ BK935.out)
            have n7_ := ab_ (ae_ BK943.out)
            have n8_ := ab_ (ah_ HB.out)
            clear HO_936002
            clear HO_944002
            clear BK909
            clear BK910
            clear BK911
            clear BK913
            clear BK935
            clear BK943
            clear HB
            have HO_936002 := n0_
            have HO_944002 := n1_
            have BK909 := n2_
            have BK910 := n3_
            have BK911 := n4_
            have BK913 := n5_
            have BK935 := n6_
            have BK943 := n7_
            have HB := n8_
            clear n0_ n1_ n2_ n3_ n4_ n5_ n6_ n7_ n8_
            refine start_ (n := 10) (S := fun w' => w'.cell? ⟨gb935, 0, none⟩ = some (.bool t929) ∧ w'.cell? ⟨gb935, 1, none⟩ = some (.int .i64 t930) ∧ w'.cell? ⟨gb935, 2, none⟩ = some (.slice Ao92 t931.length co92) ∧ w'.cell? ⟨gb943, 0, none⟩ = some (.bool t937) ∧ w'.cell? ⟨gb943, 1, none⟩ = some (.int .i64 t938) ∧ w'.cell? ⟨gb943, 2, none⟩ = some (.slice Ao101 t939.length co101)) (ds := []) #[false, false, false, false, false, false, false, false, false, false] (by kernel_rfl) rfl rfl ⟨(an_ BK935.out 0).trans rfl, (an_ BK935.out 1).trans rfl, (an_ BK935.out 2).trans rfl, (an_ BK943.out 0).trans rfl, (an_ BK943.out 1).trans rfl, (an_ BK943.out 2).trans rfl⟩ (fun hHeld => ?_); refine with_tabW spec_l9Handle.tab16 spec_l9Handle.bits16 (fun HT_ HW_ => ?_)
            generalize wc.drew = w138 at HO_936002 HO_944002 BK909 BK910 BK911 BK913 BK935 BK943 HB hHeld ⊢
            refine take_ (i := 0) (N := some 83) (v := ?_) (a' := ?_) #[true, false, false, false, false, false, false, false, false, false] rfl rfl (take_ofW HT_.out HW_.out (by kernel_rfl)) (fun _ _ _ h => h) (Or.inl ⟨by rfl, ?_⟩) hHeld ?_ ?_
            rotate_left
            · rintro w' ⟨s0, s1, s2, s3, s4, s5⟩
              go_simp
              with_reducible rfl
            rotate_left
            · simp only [Act.put, List.setIfInBounds_toArray, List.set_cons_zero, List.set_cons_succ, i64_w, i32_w]
              rfl
            refine take_ (i := 2) (N := some 85) (v := ?_) (a' := ?_) #[true, false, true, false, false, false, false, false, false, false] rfl rfl (take_ofW HT_.out HW_.out (by kernel_rfl)) (fun _ _ _ h => h) (Or.inl ⟨by rfl, ?_⟩) hHeld ?_ ?_
            rotate_left
            · rintro w' ⟨s0, s1, s2, s3, s4, s5⟩
              go_simp
              with_reducible rfl
            rotate_left
            · simp only [Act.put, List.setIfInBounds_toArray, List.set_cons_zero, List.set_cons_succ, i64_w, i32_w]
              rfl
            refine take_ (i := 4) (N := some 87) (v := ?_) (a' := ?_) #[true, false, true, false, true, false, false, false, false, false] rfl rfl (take_ofW HT_.out HW_.out (by kernel_rfl)) (fun _ _ _ h => h) (Or.inl ⟨by rfl, ?_⟩) hHeld ?_ ?_
            rotate_left
            · rintro w' ⟨s0, s1, s2, s3, s4, s5⟩
              go_simp
              with_reducible rfl
            rotate_left
            · simp only [Act.put, List.setIfInBounds_toArray, List.set_cons_zero, List.set_cons_succ, i64_w, i32_w]
              rfl
            refine one_ (i := 1) (N := some 84) #[true, true, true, false, true, false, false, false, false, false] rfl rfl (one_of HT_.out (by kernel_rfl)) (by decide) (fun K hK => ?_)
            refine goes_ Try.func99 (by kernel_rfl) rfl #[.agg #[.bool t929, .int .i64 t930, .slice Ao92 t931.length co92]] (by rfl) rfl rfl (by (try simp only [List.map_toArray, List.map_cons, List.map_nil]); first | done | rfl | (simp only [List.length_drop, List.length_take]; rfl)) ?_
            with_reducible refine (spec_l9Size.calls kj70 t929 t930 _ _ t931 t944 _ ?side1 ?side2 A112.out).mono ?_
            (case side1 => repeat (first | exact (Kd.N_reads' HO_936002.out).2.2 | (with_reducible refine ar_ ?_ _) | (with_reducible refine as_ ?_ _) | (with_reducible refine Kd.C_drew ?_)))
            (case side2 => exact (Kd.N_reads' HO_936002.out).2.1)
            rintro e w139 ⟨rfl, hb⟩
            refine ⟨_, rfl, ?_⟩
            have n0_ := ab_ (Kd.N_below (by (with_reducible repeat (first | apply Kd.N_alloc | apply Kd.N_drewN | apply Kd.N_drew)); exact HO_936002.out) hb)
            have n1_ := ab_ (Kd.N_below (by (with_reducible repeat (first | apply Kd.N_alloc | apply Kd.N_drewN | apply Kd.N_drew)); exact HO_944002.out) hb)
            have n2_ := ab_ (blk_below (g := gb909) (o := .cells #[.int .i64 a0_0, .slice (some ad912) l0_1.length c0_1] 29 (0, 0)) (by (with_reducible repeat (first | refine ac_ ?_ _ | refine ae_ ?_ | refine ad_ ?_ _)); exact BK909.out) hb)
            have n3_ := ab_ (blk_below (g := gb910) (o := .cells #[.bool true, .int .i64 a1_1, .slice (some ad928) l1_2.length c1_2] 93 (0, 0)) (by (with_reducible repeat (first | refine ac_ ?_ _ | refine ae_ ?_ | refine ad_ ?_ _)); exact BK910.out) hb)
            have n4_ := ab_ (blk_below (g := gb911) (o := .cells #[.bool false, .int .i64 0, .slice none 0 0] 93 (0, 0)) (by (with_reducible repeat (first | refine ac_ ?_ _ | refine ae_ ?_ | refine ad_ ?_ _)); exact BK911.out) hb)
            have n5_ := ab_ (blk_below (g := gb913) (o := .cells #[.int .i64 ((rd_T82 l0_1 a1_1).f0), .int .i64 ((rd_T82 l0_1 a1_1).f1)] 82 (0, 0)) (by (with_reducible repeat (first | refine ac_ ?_ _ | refine ae_ ?_ | refine ad_ ?_ _)); exact BK913.out) hb)
            have n6_ := ab_ (blk_below (g := gb935) (o := .cells #[.bool t929, .int .i64 t930, .slice Ao92 t931.length co92] 93 (0, 0)) (by (with_reducible repeat (first | refine ac_ ?_ _ | refine ae_ ?_ | refine ad_ ?_ _)); exact BK935.out) hb)
            have n7_ := ab_ (blk_below (g := gb943) (o := .cells #[.bool t937, .int .i64 t938, .slice Ao101 t939.length co101] 93 (0, 0)) (by (with_reducible repeat (first | refine ac_ ?_ _ | refine ae_ ?_ | refine ad_ ?_ _)); exact BK943.out) hb)
            have n8_ := ab_ (au_ (by repeat (first | (with_reducible first | exact HB.out | apply ai_ | apply ag_ | apply ah_ | refine af_ ?_ GE909.out | refine af_ ?_ GE910.out | refine af_ ?_ GE911.out | refine af_ ?_ GE913.out | refine af_ ?_ GE935.out | refine af_ ?_ GE943.out) | exact HB.out)) hb)
            clear HO_936002
            clear HO_944002
            clear BK909
            clear BK910
            clear BK911
            clear BK913
            clear BK935
            clear BK943
            clear HB
            have HO_936002 := n0_
            have HO_944002 := n1_
            have BK909 := n2_
            have BK910 := n3_
            have BK911 := n4_
            have BK913 := n5_
            have BK935 := n6_
            have BK943 := n7_
            have HB := n8_
            clear n0_ n1_ n2_ n3_ n4_ n5_ n6_ n7_ n8_
            (try clear hb)
            (try clear hb2)
            (try clear hk)
            (try clear hi)
            refine hK.out _ _ ⟨(an_ BK935.out 0).trans rfl, (an_ BK935.out 1).trans rfl, (an_ BK935.out 2).trans rfl, (an_ BK943.out 0).trans rfl, (an_ BK943.out 1).trans rfl, (an_ BK943.out 2).trans rfl⟩ (fun hHeld => ?_)
            clear hK K
            refine norm_ (a' := ?_) ?_ ?_
            rotate_left
            · show Act.put _ (some 84) _ = _
              simp only [Act.put, List.setIfInBounds_toArray, List.set_cons_zero, List.set_cons_succ, i64_w, i32_w]
              rfl
            refine one_ (i := 3) (N := some 86) #[true, true, true, true, true, false, false, false, false, false] rfl rfl (one_of HT_.out (by kernel_rfl)) (by decide) (fun K hK => ?_)
            refine goes_ Try.func100 (by kernel_rfl) rfl #[.agg #[.bool t929, .int .i64 t930, .slice Ao92 t931.length co92]] (by rfl) rfl rfl (by (try simp only [List.map_toArray, List.map_cons, List.map_nil]); first | done | rfl | (simp only [List.length_drop, List.length_take]; rfl)) ?_
            with_reducible refine (spec_l9Leaves.calls kj70 t929 t930 _ _ t931 t945 _ ?side1 ?side2 A113.out).mono ?_
            (case side1 => repeat (first | exact (Kd.N_reads' HO_936002.out).2.2 | (with_reducible refine ar_ ?_ _) | (with_reducible refine as_ ?_ _) | (with_reducible refine Kd.C_drew ?_)))
            (case side2 => exact (Kd.N_reads' HO_936002.out).2.1)
            rintro e w140 ⟨rfl, hb⟩
            refine ⟨_, rfl, ?_⟩
            have n0_ := ab_ (Kd.N_below (by (with_reducible repeat (first | apply Kd.N_alloc | apply Kd.N_drewN | apply Kd.N_drew)); exact HO_936002.out) hb)
            have n1_ := ab_ (Kd.N_below (by (with_reducible repeat (first | apply Kd.N_alloc | apply Kd.N_drewN | apply Kd.N_drew)); exact HO_944002.out) hb)
            have n2_ := ab_ (blk_below (g := gb909) (o := .cells #[.int .i64 a0_0, .slice (some ad912) l0_1.length c0_1] 29 (0, 0)) (by (with_reducible repeat (first | refine ac_ ?_ _ | refine ae_ ?_ | refine ad_ ?_ _)); exact BK909.out) hb)
            have n3_ := ab_ (blk_below (g := gb910) (o := .cells #[.bool true, .int .i64 a1_1, .slice (some ad928) l1_2.length c1_2] 93 (0, 0)) (by (with_reducible repeat (first | refine ac_ ?_ _ | refine ae_ ?_ | refine ad_ ?_ _)); exact BK910.out) hb)
            have n4_ := ab_ (blk_below (g := gb911) (o := .cells #[.bool false, .int .i64 0, .slice none 0 0] 93 (0, 0)) (by (with_reducible repeat (first | refine ac_ ?_ _ | refine ae_ ?_ | refine ad_ ?_ _)); exact BK911.out) hb)
            have n5_ := ab_ (blk_below (g := gb913) (o := .cells #[.int .i64 ((rd_T82 l0_1 a1_1).f0), .int .i64 ((rd_T82 l0_1 a1_1).f1)] 82 (0, 0)) (by (with_reducible repeat (first | refine ac_ ?_ _ | refine ae_ ?_ | refine ad_ ?_ _)); exact BK913.out) hb)
            have n6_ := ab_ (blk_below (g := gb935) (o := .cells #[.bool t929, .int .i64 t930, .slice Ao92 t931.length co92] 93 (0, 0)) (by (with_reducible repeat (first | refine ac_ ?_ _ | refine ae_ ?_ | refine ad_ ?_ _)); exact BK935.out) hb)
            have n7_ := ab_ (blk_below (g := gb943) (o := .cells #[.bool t937, .int .i64 t938, .slice Ao101 t939.length co101] 93 (0, 0)) (by (with_reducible repeat (first | refine ac_ ?_ _ | refine ae_ ?_ | refine ad_ ?_ _)); exact BK943.out) hb)
            have n8_ := ab_ (au_ (by repeat (first | (with_reducible first | exact HB.out | apply ai_ | apply ag_ | apply ah_ | refine af_ ?_ GE909.out | refine af_ ?_ GE910.out | refine af_ ?_ GE911.out | refine af_ ?_ GE913.out | refine af_ ?_ GE935.out | refine af_ ?_ GE943.out) | exact HB.out)) hb)
            clear HO_936002
            clear HO_944002
            clear BK909
            clear BK910
            clear BK911
            clear BK913
            clear BK935
            clear BK943
            clear HB
            have HO_936002 := n0_
            have HO_944002 := n1_
            have BK909 := n2_
            have BK910 := n3_
            have BK911 := n4_
            have BK913 := n5_
            have BK935 := n6_
            have BK943 := n7_
            have HB := n8_
            clear n0_ n1_ n2_ n3_ n4_ n5_ n6_ n7_ n8_
            (try clear hb)
            (try clear hb2)
            (try clear hk)
            (try clear hi)
            refine hK.out _ _ ⟨(an_ BK935.out 0).trans rfl, (an_ BK935.out 1).trans rfl, (an_ BK935.out 2).trans rfl, (an_ BK943.out 0).trans rfl, (an_ BK943.out 1).trans rfl, (an_ BK943.out 2).trans rfl⟩ (fun hHeld => ?_)
            clear hK K
            refine norm_ (a' := ?_) ?_ ?_
            rotate_left
            · show Act.put _ (some 86) _ = _
              simp only [Act.put, List.setIfInBounds_toArray, List.set_cons_zero, List.set_cons_succ, i64_w, i32_w]
              rfl
            refine one_ (i := 5) (N := some 88) #[true, true, true, true, true, true, false, false, false, false] rfl rfl (one_of HT_.out (by kernel_rfl)) (by decide) (fun K hK => ?_)
            refine goes_ Try.func99 (by kernel_rfl) rfl #[.agg #[.bool t937, .int .i64 t938, .slice Ao101 t939.length co101]] (by rfl) rfl rfl (by (try simp only [List.map_toArray, List.map_cons, List.map_nil]); first | done | rfl | (simp only [List.length_drop, List.length_take]; rfl)) ?_
            with_reducible refine (spec_l9Size.calls kj70 t937 t938 _ _ t939 t946 _ ?side1 ?side2 A114.out).mono ?_
            (case side1 => repeat (first | exact (Kd.N_reads' HO_944002.out).2.2 | (with_reducible refine ar_ ?_ _) | (with_reducible refine as_ ?_ _) | (with_reducible refine Kd.C_drew ?_)))
            (case side2 => exact (Kd.N_reads' HO_944002.out).2.1)
            rintro e w141 ⟨rfl, hb⟩
            refine ⟨_, rfl, ?_⟩
            have n0_ := ab_ (Kd.N_below (by (with_reducible repeat (first | apply Kd.N_alloc | apply Kd.N_drewN | apply Kd.N_drew)); exact HO_936002.out) hb)
            have n1_ := ab_ (Kd.N_below (by (with_reducible repeat (first | apply Kd.N_alloc | apply Kd.N_drewN | apply Kd.N_drew)); exact HO_944002.out) hb)
            have n2_ := ab_ (blk_below (g := gb909) (o := .cells #[.int .i64 a0_0, .slice (some ad912) l0_1.length c0_1] 29 (0, 0)) (by (with_reducible repeat (first | refine ac_ ?_ _ | refine ae_ ?_ | refine ad_ ?_ _)); exact BK909.out) hb)
            have n3_ := ab_ (blk_below (g := gb910) (o := .cells #[.bool true, .int .i64 a1_1, .slice (some ad928) l1_2.length c1_2] 93 (0, 0)) (by (with_reducible repeat (first | refine ac_ ?_ _ | refine ae_ ?_ | refine ad_ ?_ _)); exact BK910.out) hb)
            have n4_ := ab_ (blk_below (g := gb911) (o := .cells #[.bool false, .int .i64 0, .slice none 0 0] 93 (0, 0)) (by (with_reducible repeat (first | refine ac_ ?_ _ | refine ae_ ?_ | refine ad_ ?_ _)); exact BK911.out) hb)
            have n5_ := ab_ (blk_below (g := gb913) (o := .cells #[.int .i64 ((rd_T82 l0_1 a1_1).f0), .int .i64 ((rd_T82 l0_1 a1_1).f1)] 82 (0, 0)) (by (with_reducible repeat (first | refine ac_ ?_ _ | refine ae_ ?_ | refine ad_ ?_ _)); exact BK913.out) hb)
            have n6_ := ab_ (blk_below (g := gb935) (o := .cells #[.bool t929, .int .i64 t930, .slice Ao92 t931.length co92] 93 (0, 0)) (by (with_reducible repeat (first | refine ac_ ?_ _ | refine ae_ ?_ | refine ad_ ?_ _)); exact BK935.out) hb)
            have n7_ := ab_ (blk_below (g := gb943) (o := .cells #[.bool t937, .int .i64 t938, .slice Ao101 t939.length co101] 93 (0, 0)) (by (with_reducible repeat (first | refine ac_ ?_ _ | refine ae_ ?_ | refine ad_ ?_ _)); exact BK943.out) hb)
            have n8_ := ab_ (au_ (by repeat (first | (with_reducible first | exact HB.out | apply ai_ | apply ag_ | apply ah_ | refine af_ ?_ GE909.out | refine af_ ?_ GE910.out | refine af_ ?_ GE911.out | refine af_ ?_ GE913.out | refine af_ ?_ GE935.out | refine af_ ?_ GE943.out) | exact HB.out)) hb)
            clear HO_936002
            clear HO_944002
            clear BK909
            clear BK910
            clear BK911
            clear BK913
            clear BK935
            clear BK943
            clear HB
            have HO_936002 := n0_
            have HO_944002 := n1_
            have BK909 := n2_
            have BK910 := n3_
            have BK911 := n4_
            have BK913 := n5_
            have BK935 := n6_
            have BK943 := n7_
            have HB := n8_
            clear n0_ n1_ n2_ n3_ n4_ n5_ n6_ n7_ n8_
            (try clear hb)
            (try clear hb2)
            (try clear hk)
            (try clear hi)
            refine hK.out _ _ ⟨(an_ BK935.out 0).trans rfl, (an_ BK935.out 1).trans rfl, (an_ BK935.out 2).trans rfl, (an_ BK943.out 0).trans rfl, (an_ BK943.out 1).trans rfl, (an_ BK943.out 2).trans rfl⟩ (fun hHeld => ?_)
            clear hK K
            refine norm_ (a' := ?_) ?_ ?_
            rotate_left
            · show Act.put _ (some 88) _ = _
              simp only [Act.put, List.setIfInBounds_toArray, List.set_cons_zero, List.set_cons_succ, i64_w, i32_w]
              rfl
            refine pure_ (i := 6) (N := some 89) (v := ?_) (a' := ?_) #[true, true, true, true, true, true, true, false, false, false] rfl rfl (any_of HT_.out (by kernel_rfl)) (fun _ _ _ h => h) (Or.inl ⟨by rfl, ?_⟩) ?_ ?_
            rotate_left
            · intro w'
              go_simp
              with_reducible rfl
            rotate_left
            · simp only [Act.put, List.setIfInBounds_toArray, List.set_cons_zero, List.set_cons_succ, i64_w, i32_w]
              rfl
            refine pure_ (i := 7) (N := some 90) (v := ?_) (a' := ?_) #[true, true, true, true, true, true, true, true, false, false] rfl rfl (any_of HT_.out (by kernel_rfl)) (fun _ _ _ h => h) (Or.inl ⟨by rfl, ?_⟩) ?_ ?_
            rotate_left
            · intro w'
              go_simp
              with_reducible rfl
            rotate_left
            · simp only [Act.put, List.setIfInBounds_toArray, List.set_cons_zero, List.set_cons_succ, i64_w, i32_w]
              rfl
            refine pure_ (i := 8) (N := some 91) (v := ?_) (a' := ?_) #[true, true, true, true, true, true, true, true, true, false] rfl rfl (any_of HT_.out (by kernel_rfl)) (fun _ _ _ h => h) (Or.inl ⟨by rfl, ?_⟩) ?_ ?_
            rotate_left
            · intro w'
              go_simp
              with_reducible rfl
            rotate_left
            · simp only [Act.put, List.setIfInBounds_toArray, List.set_cons_zero, List.set_cons_succ, i64_w, i32_w]
              rfl
            refine pure_ (i := 9) (N := some 92) (v := ?_) (a' := ?_) #[true, true, true, true, true, true, true, true, true, true] rfl rfl (any_of HT_.out (by kernel_rfl)) (fun _ _ _ h => h) (Or.inl ⟨by rfl, ?_⟩) ?_ ?_
            rotate_left
            · intro w'
              go_simp
              with_reducible rfl
            rotate_left
            · simp only [Act.put, List.setIfInBounds_toArray, List.set_cons_zero, List.set_cons_succ, i64_w, i32_w]
              rfl
            refine done_ (done_of HT_.out (by kernel_rfl)) ?_
            have hnb142 := NB935_909.out
            have hnc142 := NB909_935.out
            have hnb143 := NB935_910.out
            have hnc143 := NB910_935.out
            have hnb144 := NB935_911.out
            have hnc144 := NB911_935.out
            have hnb145 := NB935_943.out
            have hnc145 := NB943_935.out
            have hcz146_0 : w141.cell? ⟨gb935, 0, none⟩ = some (.bool t929) := (an_ BK935.out 0).trans rfl
            have hcz146_1 : w141.cell? ⟨gb935, 1, none⟩ = some (.int .i64 t930) := (an_ BK935.out 1).trans rfl
            have hcz146_2 : w141.cell? ⟨gb935, 2, none⟩ = some (.slice Ao92 t931.length co92) := (an_ BK935.out 2).trans rfl
            have hfz146_0 := am_ BK935.out 0
            have hfz146_1 := am_ BK935.out 1
            have hfz146_2 := am_ BK935.out 2
            have hnb147 := NB943_909.out
            have hnc147 := NB909_943.out
            have hnb148 := NB943_910.out
            have hnc148 := NB910_943.out
            have hnb149 := NB943_911.out
            have hnc149 := NB911_943.out
            have hcz150_0 : w141.cell? ⟨gb943, 0, none⟩ = some (.bool t937) := (an_ BK943.out 0).trans rfl
            have hcz150_1 : w141.cell? ⟨gb943, 1, none⟩ = some (.int .i64 t938) := (an_ BK943.out 1).trans rfl
            have hcz150_2 : w141.cell? ⟨gb943, 2, none⟩ = some (.slice Ao101 t939.length co101) := (an_ BK943.out 2).trans rfl
            have hfz150_0 := am_ BK943.out 0
            have hfz150_1 := am_ BK943.out 1
            have hfz150_2 := am_ BK943.out 2
            try go_wp2_with (first | ((with_reducible refine gate_callee (f := 101) rfl ?_); refine goesL_ (some 96) rfl rfl Try.func101 (by kernel_rfl) rfl #[.agg #[.bool t929, .int .i64 t930, .slice Ao92 t931.length co92], .agg #[.bool t937, .int .i64 t938, .slice Ao101 t939.length co101]] rfl (by (try simp only [List.map_toArray, List.map_cons, List.map_nil]); first | done | rfl | (simp only [List.length_drop, List.length_take]; rfl)) ?_; (with_reducible refine (spec_l9With.calls kj70 t929 t930 _ _ t931 t937 t938 _ _ t939 t947 t948 t949 _ ?side1 ?side2 ?side3 ?side4 A131.out).mono ?_); (case side1 => repeat (first | exact (Kd.N_reads' HO_936002.out).2.2 | (with_reducible refine ar_ ?_ _) | (with_reducible refine as_ ?_ _) | (with_reducible refine Kd.C_drew ?_))); (case side2 => exact (Kd.N_reads' HO_936002.out).2.1); (case side3 => repeat (first | exact (Kd.N_reads' HO_944002.out).2.2 | (with_reducible refine ar_ ?_ _) | (with_reducible refine as_ ?_ _) | (with_reducible refine Kd.C_drew ?_))); (case side4 => exact (Kd.N_reads' HO_944002.out).2.1); rintro e w151 ⟨v950, rfl, ho0, hb⟩; refine ⟨_, rfl, ?_⟩; have n0_ := ab_ (Kd.N_elder' (by (with_reducible repeat (first | apply Kd.N_alloc | apply Kd.N_drewN | apply Kd.N_drew)); exact HO_936002.out) (Kd.N_base ho0) hb); have n1_ := ab_ (Kd.N_elder' (by (with_reducible repeat (first | apply Kd.N_alloc | apply Kd.N_drewN | apply Kd.N_drew)); exact HO_944002.out) (Kd.N_base ho0) hb); have n2_ := ab_ (Kd.N_lower (Kd.N_mono (ok' := fun k_ => (w.heap.size ≤ k_) ∧ some k_ ≠ (.slice Ao92 t931.length co92 : Value).ownBlock ∧ some k_ ≠ (.slice Ao101 t939.length co101 : Value).ownBlock ∧ k_ ≠ gb909 ∧ k_ ≠ gb910 ∧ k_ ≠ gb911 ∧ k_ ≠ gb913 ∧ k_ ≠ gb935 ∧ k_ ≠ gb943) ho0 (fun k_ hk_ => ⟨(Nat.le_trans (below_size (by repeat (first | (with_reducible first | exact HB.out | apply ai_ | apply ag_ | apply ah_ | refine af_ ?_ GE909.out | refine af_ ?_ GE910.out | refine af_ ?_ GE911.out | refine af_ ?_ GE913.out | refine af_ ?_ GE935.out | refine af_ ?_ GE943.out) | exact HB.out))) hk_), (Kd.fresh' (Kd.N_lt (by (with_reducible repeat (first | apply Kd.N_alloc | apply Kd.N_drewN | apply Kd.N_drew)); exact HO_936002.out)) k_ hk_), (Kd.fresh' (Kd.N_lt (by (with_reducible repeat (first | apply Kd.N_alloc | apply Kd.N_drewN | apply Kd.N_drew)); exact HO_944002.out)) k_ hk_), (Kd.freshB (g := gb909) (o := .cells #[.int .i64 a0_0, .slice (some ad912) l0_1.length c0_1] 29 (0, 0)) (by (with_reducible repeat (first | refine ac_ ?_ _ | refine ae_ ?_ | refine ad_ ?_ _)); exact BK909.out) k_ hk_), (Kd.freshB (g := gb910) (o := .cells #[.bool true, .int .i64 a1_1, .slice (some ad928) l1_2.length c1_2] 93 (0, 0)) (by (with_reducible repeat (first | refine ac_ ?_ _ | refine ae_ ?_ | refine ad_ ?_ _)); exact BK910.out) k_ hk_), (Kd.freshB (g := gb911) (o := .cells #[.bool false, .int .i64 0, .slice none 0 0] 93 (0, 0)) (by (with_reducible repeat (first | refine ac_ ?_ _ | refine ae_ ?_ | refine ad_ ?_ _)); exact BK911.out) k_ hk_), (Kd.freshB (g := gb913) (o := .cells #[.int .i64 ((rd_T82 l0_1 a1_1).f0), .int .i64 ((rd_T82 l0_1 a1_1).f1)] 82 (0, 0)) (by (with_reducible repeat (first | refine ac_ ?_ _ | refine ae_ ?_ | refine ad_ ?_ _)); exact BK913.out) k_ hk_), (Kd.freshB (g := gb935) (o := .cells #[.bool t929, .int .i64 t930, .slice Ao92 t931.length co92] 93 (0, 0)) (by (with_reducible repeat (first | refine ac_ ?_ _ | refine ae_ ?_ | refine ad_ ?_ _)); exact BK935.out) k_ hk_), (Kd.freshB (g := gb943) (o := .cells #[.bool t937, .int .i64 t938, .slice Ao101 t939.length co101] 93 (0, 0)) (by (with_reducible repeat (first | refine ac_ ?_ _ | refine ae_ ?_ | refine ad_ ?_ _)); exact BK943.out) k_ hk_)⟩)) (below_size (by repeat (first | (with_reducible first | exact HB.out | apply ai_ | apply ag_ | apply ah_ | refine af_ ?_ GE909.out | refine af_ ?_ GE910.out | refine af_ ?_ GE911.out | refine af_ ?_ GE913.out | refine af_ ?_ GE935.out | refine af_ ?_ GE943.out) | exact HB.out)))); have n3_ := ab_ (blk_below (g := gb909) (o := .cells #[.int .i64 a0_0, .slice (some ad912) l0_1.length c0_1] 29 (0, 0)) (by (with_reducible repeat (first | refine ac_ ?_ _ | refine ae_ ?_ | refine ad_ ?_ _)); exact BK909.out) hb); have n4_ := ab_ (blk_below (g := gb910) (o := .cells #[.bool true, .int .i64 a1_1, .slice (some ad928) l1_2.length c1_2] 93 (0, 0)) (by (with_reducible repeat (first | refine ac_ ?_ _ | refine ae_ ?_ | refine ad_ ?_ _)); exact BK910.out) hb); have n5_ := ab_ (blk_below (g := gb911) (o := .cells #[.bool false, .int .i64 0, .slice none 0 0] 93 (0, 0)) (by (with_reducible repeat (first | refine ac_ ?_ _ | refine ae_ ?_ | refine ad_ ?_ _)); exact BK911.out) hb); have n6_ := ab_ (blk_below (g := gb913) (o := .cells #[.int .i64 ((rd_T82 l0_1 a1_1).f0), .int .i64 ((rd_T82 l0_1 a1_1).f1)] 82 (0, 0)) (by (with_reducible repeat (first | refine ac_ ?_ _ | refine ae_ ?_ | refine ad_ ?_ _)); exact BK913.out) hb); have n7_ := ab_ (blk_below (g := gb935) (o := .cells #[.bool t929, .int .i64 t930, .slice Ao92 t931.length co92] 93 (0, 0)) (by (with_reducible repeat (first | refine ac_ ?_ _ | refine ae_ ?_ | refine ad_ ?_ _)); exact BK935.out) hb); have n8_ := ab_ (blk_below (g := gb943) (o := .cells #[.bool t937, .int .i64 t938, .slice Ao101 t939.length co101] 93 (0, 0)) (by (with_reducible repeat (first | refine ac_ ?_ _ | refine ae_ ?_ | refine ad_ ?_ _)); exact BK943.out) hb); have n9_ := ab_ (au_ (by repeat (first | (with_reducible first | exact HB.out | apply ai_ | apply ag_ | apply ah_ | refine af_ ?_ GE909.out | refine af_ ?_ GE910.out | refine af_ ?_ GE911.out | refine af_ ?_ GE913.out | refine af_ ?_ GE935.out | refine af_ ?_ GE943.out) | exact HB.out)) hb); clear HO_936002; clear HO_944002; clear BK909; clear BK910; clear BK911; clear BK913; clear BK935; clear BK943; clear HB; have HO_936002 := n0_; have HO_944002 := n1_; have HO951 := n2_; have BK909 := n3_; have BK910 := n4_; have BK911 := n5_; have BK913 := n6_; have BK935 := n7_; have BK943 := n8_; have HB := n9_; clear n0_ n1_ n2_ n3_ n4_ n5_ n6_ n7_ n8_ n9_; (try clear hb); (try clear hb2); (try clear hk); (try clear hi); (try clear ho0); have hnb152 := NB911_909.out; have hnc152 := NB909_911.out; have hnb153 := NB911_910.out; have hnc153 := NB910_911.out; have hcz154_0 : w151.cell? ⟨gb911, 0, none⟩ = some (.bool false) := (an_ BK911.out 0).trans rfl; have hcz154_1 : w151.cell? ⟨gb911, 1, none⟩ = some (.int .i64 0) := (an_ BK911.out 1).trans rfl; have hcz154_2 : w151.cell? ⟨gb911, 2, none⟩ = some (.slice none 0 0) := (an_ BK911.out 2).trans rfl; have hfz154_0 := am_ BK911.out 0; have hfz154_1 := am_ BK911.out 1; have hfz154_2 := am_ BK911.out 2; obtain ⟨Ao155, co155, eo155⟩ := Kd.N_slice HO951.out; subst eo155))
            refine bodyPost_ret (results_ct rfl _ _ gb911 93 #[.bool t947, .int .i64 t948, .slice Ao155 t949.length co155] (0, 0) _ rfl (by (with_reducible repeat (first | refine ac_ ?_ _ | refine ae_ ?_ | refine ad_ ?_ _)); refine blk_put (cs := #[.bool t947, .int .i64 t948, .slice none 0 0]) ?_ 2 _ rfl; (with_reducible repeat (first | refine ac_ ?_ _ | refine ae_ ?_ | refine ad_ ?_ _)); refine blk_put (cs := #[.bool t947, .int .i64 0, .slice none 0 0]) ?_ 1 _ rfl; (with_reducible repeat (first | refine ac_ ?_ _ | refine ae_ ?_ | refine ad_ ?_ _)); refine blk_put (cs := #[.bool false, .int .i64 0, .slice none 0 0]) ?_ 0 _ rfl; (with_reducible repeat (first | refine ac_ ?_ _ | refine ae_ ?_ | refine ad_ ?_ _)); exact BK911.out) Try.underlying93 rfl (by kernel_rfl)) rfl ?_
            exact ⟨_, by first | rfl | (simp [errW_none, errW_some] <;> rfl) | (simp [*, errW_none, errW_some] <;> rfl), by (with_reducible repeat (first | apply Kd.N_alloc | apply Kd.N_drewN | apply Kd.N_drew)); exact Kd.N_mono (Kd.N_far (p := ⟨gb911, 2, none⟩) (Kd.N_far (p := ⟨gb911, 1, none⟩) (Kd.N_far (p := ⟨gb911, 0, none⟩) (Kd.N_mono HO951.out (fun k_ hk => (⟨hk, hk.2.2.2.2.2.1⟩ : _ ∧ k_ ≠ gb911))) (fun _ hk => hk.2) (.bool t947)) (fun _ hk => hk.2) (.int .i64 t948)) (fun _ hk => hk.2) (.slice Ao155 t949.length co155)) (fun _ hk => hk.1.1), by repeat (first | (with_reducible first | exact HB.out | apply ai_ | apply ag_ | apply ah_ | refine af_ ?_ GE909.out | refine af_ ?_ GE910.out | refine af_ ?_ GE911.out | refine af_ ?_ GE913.out | refine af_ ?_ GE935.out | refine af_ ?_ GE943.out) | exact HB.out)⟩
        · rw [if_neg c111] at H
          have c111b0 : (((rd_T82 l0_1 a1_1).f0) == 3) = false := beq_eq_false_iff_ne.mpr c111
          have c111b1 : (((rd_T82 l0_1 a1_1).f0) != 3) = true := bne_iff_ne.mpr c111
          obtain ⟨y952, hy952⟩ : ∃ y_ : List (S93), y_ = (([(⟨t929, t930, t931⟩ : S93), (⟨t937, t938, t939⟩ : S93)] : List (S93))) := ⟨_, rfl⟩
          replace H : ((spec_l9Size.f kj70 true a1_1 y952).bind fun t956 => (some (true, a1_1, y952, decide (t956 ≤ 60)))) = some (r1, r2, r3, r4) := by first | (rw [hy952]; with_reducible exact H) | (have H2_ := (Option.bind_some _ _).symm.trans H; rw [hy952]; with_reducible exact H2_) | (have H2_ := (Option.bind_some _ _).symm.trans H; with_reducible exact H2_) | with_reducible exact H | (rw [hy952]; exact H) | exact H
          have Ny952 := ab_ hy952
          clear hy952
          replace H := Option.bind_eq_some_iff.mp H
          obtain ⟨t956, A1560, H⟩ := H
          replace H : (some (true, a1_1, y952, decide (t956 ≤ 60))) = some (r1, r2, r3, r4) := H
          have A156 := ab_ A1560
          clear A1560
          simp only [Option.some.injEq, Prod.mk.injEq] at H
          obtain ⟨rfl, rfl, rfl, rfl⟩ := H
          have hnb157 := NB913_909.out
          have hnc157 := NB909_913.out
          have hnb158 := NB913_910.out
          have hnc158 := NB910_913.out
          have hnb159 := NB913_911.out
          have hnc159 := NB911_913.out
          have hnb160 := NB913_935.out
          have hnc160 := NB935_913.out
          have hnb161 := NB913_943.out
          have hnc161 := NB943_913.out
          have hcz162_0 : wc.cell? ⟨gb913, 0, none⟩ = some (.int .i64 ((rd_T82 l0_1 a1_1).f0)) := (an_ BK913.out 0).trans rfl
          have hcz162_1 : wc.cell? ⟨gb913, 1, none⟩ = some (.int .i64 ((rd_T82 l0_1 a1_1).f1)) := (an_ BK913.out 1).trans rfl
          have hfz162_0 := am_ BK913.out 0
          have hfz162_1 := am_ BK913.out 1
          have hnb163 := NB910_909.out
          have hnc163 := NB909_910.out
          have hnb164 := NB910_911.out
          have hnc164 := NB911_910.out
          have hnb165 := NB910_935.out
          have hnc165 := NB935_910.out
          have hnb166 := NB910_943.out
          have hnc166 := NB943_910.out
          have hcz167_0 : wc.cell? ⟨gb910, 0, none⟩ = some (.bool true) := (an_ BK910.out 0).trans rfl
          have hcz167_1 : wc.cell? ⟨gb910, 1, none⟩ = some (.int .i64 a1_1) := (an_ BK910.out 1).trans rfl
          have hcz167_2 : wc.cell? ⟨gb910, 2, none⟩ = some (.slice (some ad928) l1_2.length c1_2) := (an_ BK910.out 2).trans rfl
          have hfz167_0 := am_ BK910.out 0
          have hfz167_1 := am_ BK910.out 1
          have hfz167_2 := am_ BK910.out 2
          have hnb168 := NB935_909.out
          have hnc168 := NB909_935.out
          have hnb169 := NB935_911.out
          have hnc169 := NB911_935.out
          have hnb170 := NB935_943.out
          have hnc170 := NB943_935.out
          have hcz171_0 : wc.cell? ⟨gb935, 0, none⟩ = some (.bool t929) := (an_ BK935.out 0).trans rfl
          have hcz171_1 : wc.cell? ⟨gb935, 1, none⟩ = some (.int .i64 t930) := (an_ BK935.out 1).trans rfl
          have hcz171_2 : wc.cell? ⟨gb935, 2, none⟩ = some (.slice Ao92 t931.length co92) := (an_ BK935.out 2).trans rfl
          have hfz171_0 := am_ BK935.out 0
          have hfz171_1 := am_ BK935.out 1
          have hfz171_2 := am_ BK935.out 2
          have hnb172 := NB943_909.out
          have hnc172 := NB909_943.out
          have hnb173 := NB943_911.out
          have hnc173 := NB911_943.out
          have hcz174_0 : wc.cell? ⟨gb943, 0, none⟩ = some (.bool t937) := (an_ BK943.out 0).trans rfl
          have hcz174_1 : wc.cell? ⟨gb943, 1, none⟩ = some (.int .i64 t938) := (an_ BK943.out 1).trans rfl
          have hcz174_2 : wc.cell? ⟨gb943, 2, none⟩ = some (.slice Ao101 t939.length co101) := (an_ BK943.out 2).trans rfl
          have hfz174_0 := am_ BK943.out 0
          have hfz174_1 := am_ BK943.out 1
          have hfz174_2 := am_ BK943.out 2
          try go_wp2_with (first | ((with_reducible refine gate_dst (N := 101) rfl ?_); refine Kd.N_lit k93 _ 93 ?hg (N' := 101) ?hd (xs := ([(⟨t929, t930, t931⟩ : S93), (⟨t937, t938, t939⟩ : S93)] : List (S93))) (inner := [.bool t929, .int .i64 t930, .slice Ao92 t931.length co92, .bool t937, .int .i64 t938, .slice Ao101 t939.length co101]) (ok := (fun k_ => (w.heap.size ≤ k_) ∧ k_ ≠ gb909 ∧ k_ ≠ gb910 ∧ k_ ≠ gb911 ∧ k_ ≠ gb913 ∧ k_ ≠ gb935 ∧ k_ ≠ gb943)) (okp := (fun k_ => (w.heap.size ≤ k_) ∧ k_ ≠ gb909 ∧ k_ ≠ gb910 ∧ k_ ≠ gb911 ∧ k_ ≠ gb913 ∧ k_ ≠ gb935 ∧ k_ ≠ gb943)) ?hr ?hp (fun _ hk => hk) ((show ∀ k_, wc.heap.size ≤ k_ → (fun k_ => (w.heap.size ≤ k_) ∧ k_ ≠ gb909 ∧ k_ ≠ gb910 ∧ k_ ≠ gb911 ∧ k_ ≠ gb913 ∧ k_ ≠ gb935 ∧ k_ ≠ gb943) k_ from fun k_ hk => ⟨(Nat.le_trans (below_size (by repeat (first | (with_reducible first | exact HB.out | apply ai_ | apply ag_ | apply ah_ | refine af_ ?_ GE909.out | refine af_ ?_ GE910.out | refine af_ ?_ GE911.out | refine af_ ?_ GE913.out | refine af_ ?_ GE935.out | refine af_ ?_ GE943.out) | exact HB.out))) hk), Kd.freshB (g := gb909) (o := .cells #[.int .i64 a0_0, .slice (some ad912) l0_1.length c0_1] 29 (0, 0)) (by (with_reducible repeat (first | refine ac_ ?_ _ | refine ae_ ?_ | refine ad_ ?_ _)); exact BK909.out) k_ hk, Kd.freshB (g := gb910) (o := .cells #[.bool true, .int .i64 a1_1, .slice (some ad928) l1_2.length c1_2] 93 (0, 0)) (by (with_reducible repeat (first | refine ac_ ?_ _ | refine ae_ ?_ | refine ad_ ?_ _)); exact BK910.out) k_ hk, Kd.freshB (g := gb911) (o := .cells #[.bool false, .int .i64 0, .slice none 0 0] 93 (0, 0)) (by (with_reducible repeat (first | refine ac_ ?_ _ | refine ae_ ?_ | refine ad_ ?_ _)); exact BK911.out) k_ hk, Kd.freshB (g := gb913) (o := .cells #[.int .i64 ((rd_T82 l0_1 a1_1).f0), .int .i64 ((rd_T82 l0_1 a1_1).f1)] 82 (0, 0)) (by (with_reducible repeat (first | refine ac_ ?_ _ | refine ae_ ?_ | refine ad_ ?_ _)); exact BK913.out) k_ hk, Kd.freshB (g := gb935) (o := .cells #[.bool t929, .int .i64 t930, .slice Ao92 t931.length co92] 93 (0, 0)) (by (with_reducible repeat (first | refine ac_ ?_ _ | refine ae_ ?_ | refine ad_ ?_ _)); exact BK935.out) k_ hk, Kd.freshB (g := gb943) (o := .cells #[.bool t937, .int .i64 t938, .slice Ao101 t939.length co101] 93 (0, 0)) (by (with_reducible repeat (first | refine ac_ ?_ _ | refine ae_ ?_ | refine ad_ ?_ _)); exact BK943.out) k_ hk⟩) _ (Nat.le_refl _)) (av_ _ _) (Nat.le_refl _) (by simp) ?_; (case hd => rfl); (case hg => rfl); (case hr => first | (go_simp; done) | (go_simp; rfl)); (case hp => exact (Reps.c3 (show Kd.FK k93 _ _ (⟨t929, t930, t931⟩ : S93) [.bool t929, .int .i64 t930, .slice Ao92 t931.length co92] from (k93_mkF _ _ (⟨t929, t930, t931⟩ : S93) (Kd.N_reads' (Kd.N_mono (ok' := (fun k_ => (w.heap.size ≤ k_) ∧ k_ ≠ gb909 ∧ k_ ≠ gb910 ∧ k_ ≠ gb911 ∧ k_ ≠ gb913 ∧ k_ ≠ gb935 ∧ k_ ≠ gb943)) (HO_936002.out) (fun k_ hk => ⟨hk.1, ⟨hk.2.2.1, ⟨hk.2.2.2.1, ⟨hk.2.2.2.2.1, ⟨hk.2.2.2.2.2.1, ⟨hk.2.2.2.2.2.2.1, hk.2.2.2.2.2.2.2⟩⟩⟩⟩⟩⟩))).2.1 (Kd.N_F (Kd.N_mono (ok' := (fun k_ => (w.heap.size ≤ k_) ∧ k_ ≠ gb909 ∧ k_ ≠ gb910 ∧ k_ ≠ gb911 ∧ k_ ≠ gb913 ∧ k_ ≠ gb935 ∧ k_ ≠ gb943)) (HO_936002.out) (fun k_ hk => ⟨hk.1, ⟨hk.2.2.1, ⟨hk.2.2.2.1, ⟨hk.2.2.2.2.1, ⟨hk.2.2.2.2.2.1, ⟨hk.2.2.2.2.2.2.1, hk.2.2.2.2.2.2.2⟩⟩⟩⟩⟩⟩))))) (Reps.c3 (show Kd.FK k93 _ _ (⟨t937, t938, t939⟩ : S93) [.bool t937, .int .i64 t938, .slice Ao101 t939.length co101] from (k93_mkF _ _ (⟨t937, t938, t939⟩ : S93) (Kd.N_reads' (Kd.N_mono (ok' := (fun k_ => (w.heap.size ≤ k_) ∧ k_ ≠ gb909 ∧ k_ ≠ gb910 ∧ k_ ≠ gb911 ∧ k_ ≠ gb913 ∧ k_ ≠ gb935 ∧ k_ ≠ gb943)) (HO_944002.out) (fun k_ hk => ⟨hk.1, ⟨hk.2.2.1, ⟨hk.2.2.2.1, ⟨hk.2.2.2.2.1, ⟨hk.2.2.2.2.2.1, ⟨hk.2.2.2.2.2.2.1, hk.2.2.2.2.2.2.2⟩⟩⟩⟩⟩⟩))).2.1 (Kd.N_F (Kd.N_mono (ok' := (fun k_ => (w.heap.size ≤ k_) ∧ k_ ≠ gb909 ∧ k_ ≠ gb910 ∧ k_ ≠ gb911 ∧ k_ ≠ gb913 ∧ k_ ≠ gb935 ∧ k_ ≠ gb943)) (HO_944002.out) (fun k_ hk => ⟨hk.1, ⟨hk.2.2.1, ⟨hk.2.2.2.1, ⟨hk.2.2.2.2.1, ⟨hk.2.2.2.2.2.1, ⟨hk.2.2.2.2.2.2.1, hk.2.2.2.2.2.2.2⟩⟩⟩⟩⟩⟩))))) (Reps.none _ _)))); intro v953 w175 ho176 hb hg_ hnew_; clear hg_ hnew_; (first | rw [← Ny952.out] at ho176 | (simp only [Int.reduceToNat] at ho176; rw [← Ny952.out] at ho176)); have n0_ := ab_ (Kd.N_lower ho176 (below_size (by repeat (first | (with_reducible first | exact HB.out | apply ai_ | apply ag_ | apply ah_ | refine af_ ?_ GE909.out | refine af_ ?_ GE910.out | refine af_ ?_ GE911.out | refine af_ ?_ GE913.out | refine af_ ?_ GE935.out | refine af_ ?_ GE943.out) | exact HB.out)))); have n1_ := ab_ (blk_below (g := gb909) (o := .cells #[.int .i64 a0_0, .slice (some ad912) l0_1.length c0_1] 29 (0, 0)) (by (with_reducible repeat (first | refine ac_ ?_ _ | refine ae_ ?_ | refine ad_ ?_ _)); exact BK909.out) hb); have n2_ := ab_ (blk_below (g := gb910) (o := .cells #[.bool true, .int .i64 a1_1, .slice (some ad928) l1_2.length c1_2] 93 (0, 0)) (by (with_reducible repeat (first | refine ac_ ?_ _ | refine ae_ ?_ | refine ad_ ?_ _)); exact BK910.out) hb); have n3_ := ab_ (blk_below (g := gb911) (o := .cells #[.bool false, .int .i64 0, .slice none 0 0] 93 (0, 0)) (by (with_reducible repeat (first | refine ac_ ?_ _ | refine ae_ ?_ | refine ad_ ?_ _)); exact BK911.out) hb); have n4_ := ab_ (blk_below (g := gb913) (o := .cells #[.int .i64 ((rd_T82 l0_1 a1_1).f0), .int .i64 ((rd_T82 l0_1 a1_1).f1)] 82 (0, 0)) (by (with_reducible repeat (first | refine ac_ ?_ _ | refine ae_ ?_ | refine ad_ ?_ _)); exact BK913.out) hb); have n5_ := ab_ (blk_below (g := gb935) (o := .cells #[.bool t929, .int .i64 t930, .slice Ao92 t931.length co92] 93 (0, 0)) (by (with_reducible repeat (first | refine ac_ ?_ _ | refine ae_ ?_ | refine ad_ ?_ _)); exact BK935.out) hb); have n6_ := ab_ (blk_below (g := gb943) (o := .cells #[.bool t937, .int .i64 t938, .slice Ao101 t939.length co101] 93 (0, 0)) (by (with_reducible repeat (first | refine ac_ ?_ _ | refine ae_ ?_ | refine ad_ ?_ _)); exact BK943.out) hb); have n7_ := ab_ (au_ (by repeat (first | (with_reducible first | exact HB.out | apply ai_ | apply ag_ | apply ah_ | refine af_ ?_ GE909.out | refine af_ ?_ GE910.out | refine af_ ?_ GE911.out | refine af_ ?_ GE913.out | refine af_ ?_ GE935.out | refine af_ ?_ GE943.out) | exact HB.out)) hb); clear BK909; clear BK910; clear BK911; clear BK913; clear BK935; clear BK943; clear HB; clear HO_936002; clear HO_944002; have HO954 := n0_; have BK909 := n1_; have BK910 := n2_; have BK911 := n3_; have BK913 := n4_; have BK935 := n5_; have BK943 := n6_; have HB := n7_; clear n0_ n1_ n2_ n3_ n4_ n5_ n6_ n7_; clear hb ho176; obtain ⟨Ao177, co177, eo177⟩ := Kd.N_slice HO954.out; subst eo177) | ((with_reducible refine gate_dst (N := 11) rfl ?_); refine box_event ?hg (N := 11) ?hd (cs := #[.bool false, .int .i64 0, .slice none 0 0]) (t := 93) ?hr ?_; (case hd => rfl); (case hg => rfl); (case hr => first | (go_simp; done) | (go_simp; rfl)); intro gb955 hg w178 hbox hb; have n0_ := ab_ (Kd.N_below (Kd.N_elderB (by (with_reducible repeat (first | apply Kd.N_alloc | apply Kd.N_drewN | apply Kd.N_drew)); exact HO954.out) gb955 (Nat.le_of_eq hg.symm)) hb); have n1_ := ab_ (blk_below (g := gb909) (o := .cells #[.int .i64 a0_0, .slice (some ad912) l0_1.length c0_1] 29 (0, 0)) (by (with_reducible repeat (first | refine ac_ ?_ _ | refine ae_ ?_ | refine ad_ ?_ _)); exact BK909.out) hb); have n2_ := ab_ (blk_below (g := gb910) (o := .cells #[.bool true, .int .i64 a1_1, .slice (some ad928) l1_2.length c1_2] 93 (0, 0)) (by (with_reducible repeat (first | refine ac_ ?_ _ | refine ae_ ?_ | refine ad_ ?_ _)); exact BK910.out) hb); have n3_ := ab_ (blk_below (g := gb911) (o := .cells #[.bool false, .int .i64 0, .slice none 0 0] 93 (0, 0)) (by (with_reducible repeat (first | refine ac_ ?_ _ | refine ae_ ?_ | refine ad_ ?_ _)); exact BK911.out) hb); have n4_ := ab_ (blk_below (g := gb913) (o := .cells #[.int .i64 ((rd_T82 l0_1 a1_1).f0), .int .i64 ((rd_T82 l0_1 a1_1).f1)] 82 (0, 0)) (by (with_reducible repeat (first | refine ac_ ?_ _ | refine ae_ ?_ | refine ad_ ?_ _)); exact BK913.out) hb); have n5_ := ab_ (blk_below (g := gb935) (o := .cells #[.bool t929, .int .i64 t930, .slice Ao92 t931.length co92] 93 (0, 0)) (by (with_reducible repeat (first | refine ac_ ?_ _ | refine ae_ ?_ | refine ad_ ?_ _)); exact BK935.out) hb); have n6_ := ab_ (blk_below (g := gb943) (o := .cells #[.bool t937, .int .i64 t938, .slice Ao101 t939.length co101] 93 (0, 0)) (by (with_reducible repeat (first | refine ac_ ?_ _ | refine ae_ ?_ | refine ad_ ?_ _)); exact BK943.out) hb); have n7_ := ab_ (au_ (by repeat (first | (with_reducible first | exact HB.out | apply ai_ | apply ag_ | apply ah_ | refine af_ ?_ GE909.out | refine af_ ?_ GE910.out | refine af_ ?_ GE911.out | refine af_ ?_ GE913.out | refine af_ ?_ GE935.out | refine af_ ?_ GE943.out) | exact HB.out)) hb); have n8_ := ab_ (hbox); have n9_ := ab_ ((by rw [hg]; exact (below_size (by repeat (first | (with_reducible first | exact HB.out | apply ai_ | apply ag_ | apply ah_ | refine af_ ?_ GE909.out | refine af_ ?_ GE910.out | refine af_ ?_ GE911.out | refine af_ ?_ GE913.out | refine af_ ?_ GE935.out | refine af_ ?_ GE943.out) | exact HB.out))) : w.heap.size ≤ gb955)); have n10_ := ab_ ((by rw [hg]; exact (below_size (by repeat (first | (with_reducible first | exact HB.out | apply ai_ | apply ag_ | apply ah_ | refine af_ ?_ GE909.out | refine af_ ?_ GE910.out | refine af_ ?_ GE911.out | refine af_ ?_ GE913.out | refine af_ ?_ GE935.out | refine af_ ?_ GE943.out) | exact HB.out))) : w.heap.size ≤ gb955)); have n11_ := ab_ ((by rw [hg]; exact ak_ (blk_lt (g := gb909) (o := .cells #[.int .i64 a0_0, .slice (some ad912) l0_1.length c0_1] 29 (0, 0)) (by (with_reducible repeat (first | refine ac_ ?_ _ | refine ae_ ?_ | refine ad_ ?_ _)); exact BK909.out)) : gb909 ≠ gb955)); have n12_ := ab_ ((by rw [hg]; exact Nat.ne_of_gt (blk_lt (g := gb909) (o := .cells #[.int .i64 a0_0, .slice (some ad912) l0_1.length c0_1] 29 (0, 0)) (by (with_reducible repeat (first | refine ac_ ?_ _ | refine ae_ ?_ | refine ad_ ?_ _)); exact BK909.out)) : gb955 ≠ gb909)); have n13_ := ab_ ((by rw [hg]; exact ak_ (blk_lt (g := gb910) (o := .cells #[.bool true, .int .i64 a1_1, .slice (some ad928) l1_2.length c1_2] 93 (0, 0)) (by (with_reducible repeat (first | refine ac_ ?_ _ | refine ae_ ?_ | refine ad_ ?_ _)); exact BK910.out)) : gb910 ≠ gb955)); have n14_ := ab_ ((by rw [hg]; exact Nat.ne_of_gt (blk_lt (g := gb910) (o := .cells #[.bool true, .int .i64 a1_1, .slice (some ad928) l1_2.length c1_2] 93 (0, 0)) (by (with_reducible repeat (first | refine ac_ ?_ _ | refine ae_ ?_ | refine ad_ ?_ _)); exact BK910.out)) : gb955 ≠ gb910)); have n15_ := ab_ ((by rw [hg]; exact ak_ (blk_lt (g := gb911) (o := .cells #[.bool false, .int .i64 0, .slice none 0 0] 93 (0, 0)) (by (with_reducible repeat (first | refine ac_ ?_ _ | refine ae_ ?_ | refine ad_ ?_ _)); exact BK911.out)) : gb911 ≠ gb955)); have n16_ := ab_ ((by rw [hg]; exact Nat.ne_of_gt (blk_lt (g := gb911) (o := .cells #[.bool false, .int .i64 0, .slice none 0 0] 93 (0, 0)) (by (with_reducible repeat (first | refine ac_ ?_ _ | refine ae_ ?_ | refine ad_ ?_ _)); exact BK911.out)) : gb955 ≠ gb911)); have n17_ := ab_ ((by rw [hg]; exact ak_ (blk_lt (g := gb913) (o := .cells #[.int .i64 ((rd_T82 l0_1 a1_1).f0), .int .i64 ((rd_T82 l0_1 a1_1).f1)] 82 (0, 0)) (by (with_reducible repeat (first | refine ac_ ?_ _ | refine ae_ ?_ | refine ad_ ?_ _)); exact BK913.out)) : gb913 ≠ gb955)); have n18_ := ab_ ((by rw [hg]; exact Nat.ne_of_gt (blk_lt (g := gb913) (o := .cells #[.int .i64 ((rd_T82 l0_1 a1_1).f0), .int .i64 ((rd_T82 l0_1 a1_1).f1)] 82 (0, 0)) (by (with_reducible repeat (first | refine ac_ ?_ _ | refine ae_ ?_ | refine ad_ ?_ _)); exact BK913.out)) : gb955 ≠ gb913)); have n19_ := ab_ ((by rw [hg]; exact ak_ (blk_lt (g := gb935) (o := .cells #[.bool t929, .int .i64 t930, .slice Ao92 t931.length co92] 93 (0, 0)) (by (with_reducible repeat (first | refine ac_ ?_ _ | refine ae_ ?_ | refine ad_ ?_ _)); exact BK935.out)) : gb935 ≠ gb955)); have n20_ := ab_ ((by rw [hg]; exact Nat.ne_of_gt (blk_lt (g := gb935) (o := .cells #[.bool t929, .int .i64 t930, .slice Ao92 t931.length co92] 93 (0, 0)) (by (with_reducible repeat (first | refine ac_ ?_ _ | refine ae_ ?_ | refine ad_ ?_ _)); exact BK935.out)) : gb955 ≠ gb935)); have n21_ := ab_ ((by rw [hg]; exact ak_ (blk_lt (g := gb943) (o := .cells #[.bool t937, .int .i64 t938, .slice Ao101 t939.length co101] 93 (0, 0)) (by (with_reducible repeat (first | refine ac_ ?_ _ | refine ae_ ?_ | refine ad_ ?_ _)); exact BK943.out)) : gb943 ≠ gb955)); have n22_ := ab_ ((by rw [hg]; exact Nat.ne_of_gt (blk_lt (g := gb943) (o := .cells #[.bool t937, .int .i64 t938, .slice Ao101 t939.length co101] 93 (0, 0)) (by (with_reducible repeat (first | refine ac_ ?_ _ | refine ae_ ?_ | refine ad_ ?_ _)); exact BK943.out)) : gb955 ≠ gb943)); clear HO954; clear BK909; clear BK910; clear BK911; clear BK913; clear BK935; clear BK943; clear HB; have HO954 := n0_; have BK909 := n1_; have BK910 := n2_; have BK911 := n3_; have BK913 := n4_; have BK935 := n5_; have BK943 := n6_; have HB := n7_; have BK955 := n8_; have GW955 := n9_; have GE955 := n10_; have NB909_955 := n11_; have NB955_909 := n12_; have NB910_955 := n13_; have NB955_910 := n14_; have NB911_955 := n15_; have NB955_911 := n16_; have NB913_955 := n17_; have NB955_913 := n18_; have NB935_955 := n19_; have NB955_935 := n20_; have NB943_955 := n21_; have NB955_943 := n22_; clear n0_ n1_ n2_ n3_ n4_ n5_ n6_ n7_ n8_ n9_ n10_ n11_ n12_ n13_ n14_ n15_ n16_ n17_ n18_ n19_ n20_ n21_ n22_; clear hb hbox hg; have hnb179 := NB955_909.out; have hnc179 := NB909_955.out; have hnb180 := NB955_910.out; have hnc180 := NB910_955.out; have hnb181 := NB955_911.out; have hnc181 := NB911_955.out; have hnb182 := NB955_913.out; have hnc182 := NB913_955.out; have hnb183 := NB955_935.out; have hnc183 := NB935_955.out; have hnb184 := NB955_943.out; have hnc184 := NB943_955.out; have hcz185_0 : w178.cell? ⟨gb955, 0, none⟩ = some (.bool false) := (an_ BK955.out 0).trans rfl; have hcz185_1 : w178.cell? ⟨gb955, 1, none⟩ = some (.int .i64 0) := (an_ BK955.out 1).trans rfl; have hcz185_2 : w178.cell? ⟨gb955, 2, none⟩ = some (.slice none 0 0) := (an_ BK955.out 2).trans rfl; have hfz185_0 := am_ BK955.out 0; have hfz185_1 := am_ BK955.out 1; have hfz185_2 := am_ BK955.out 2))
          have n0_ : Aside0 (Kd.N k93 93 (((w178.setCell ⟨gb955, 0, none⟩ (.bool true)).setCell ⟨gb955, 1, none⟩ (.int .i64 a1_1)).setCell ⟨gb955, 2, none⟩ (.slice Ao177 y952.length co177)) w.heap.size (fun k_ => (w.heap.size ≤ k_) ∧ k_ ≠ gb909 ∧ k_ ≠ gb910 ∧ k_ ≠ gb911 ∧ k_ ≠ gb913 ∧ k_ ≠ gb935 ∧ k_ ≠ gb943 ∧ k_ ≠ gb955) (.slice Ao177 y952.length co177) y952) := ⟨by (with_reducible repeat (first | apply Kd.N_alloc | apply Kd.N_drewN | apply Kd.N_drew)); exact Kd.N_mono (Kd.N_far (p := ⟨gb955, 2, none⟩) (Kd.N_far (p := ⟨gb955, 1, none⟩) (Kd.N_far (p := ⟨gb955, 0, none⟩) (Kd.N_mono HO954.out (fun k_ hk => (⟨hk, hk.2⟩ : _ ∧ k_ ≠ gb955))) (fun _ hk => hk.2) (.bool true)) (fun _ hk => hk.2) (.int .i64 a1_1)) (fun _ hk => hk.2) (.slice Ao177 y952.length co177)) (fun _ hk => ⟨hk.1.1.1, ⟨hk.1.1.2.1, ⟨hk.1.1.2.2.1, ⟨hk.1.1.2.2.2.1, ⟨hk.1.1.2.2.2.2.1, ⟨hk.1.1.2.2.2.2.2.1, ⟨hk.1.1.2.2.2.2.2.2, hk.1.2⟩⟩⟩⟩⟩⟩⟩)⟩
          have n1_ : Aside0 ((((w178.setCell ⟨gb955, 0, none⟩ (.bool true)).setCell ⟨gb955, 1, none⟩ (.int .i64 a1_1)).setCell ⟨gb955, 2, none⟩ (.slice Ao177 y952.length co177)).heap[gb909]? = some (.cells #[.int .i64 a0_0, .slice (some ad912) l0_1.length c0_1] 29 (0, 0))) := ⟨by (with_reducible repeat (first | refine ac_ ?_ _ | refine ae_ ?_ | refine ad_ ?_ _)); refine blk_far ?_ NB909_955.out _; (with_reducible repeat (first | refine ac_ ?_ _ | refine ae_ ?_ | refine ad_ ?_ _)); refine blk_far ?_ NB909_955.out _; (with_reducible repeat (first | refine ac_ ?_ _ | refine ae_ ?_ | refine ad_ ?_ _)); refine blk_far ?_ NB909_955.out _; (with_reducible repeat (first | refine ac_ ?_ _ | refine ae_ ?_ | refine ad_ ?_ _)); exact BK909.out⟩
          have n2_ : Aside0 ((((w178.setCell ⟨gb955, 0, none⟩ (.bool true)).setCell ⟨gb955, 1, none⟩ (.int .i64 a1_1)).setCell ⟨gb955, 2, none⟩ (.slice Ao177 y952.length co177)).heap[gb910]? = some (.cells #[.bool true, .int .i64 a1_1, .slice (some ad928) l1_2.length c1_2] 93 (0, 0))) := ⟨by (with_reducible repeat (first | refine ac_ ?_ _ | refine ae_ ?_ | refine ad_ ?_ _)); refine blk_far ?_ NB910_955.out _; (with_reducible repeat (first | refine ac_ ?_ _ | refine ae_ ?_ | refine ad_ ?_ _)); refine blk_far ?_ NB910_955.out _; (with_reducible repeat (first | refine ac_ ?_ _ | refine ae_ ?_ | refine ad_ ?_ _)); refine blk_far ?_ NB910_955.out _; (with_reducible repeat (first | refine ac_ ?_ _ | refine ae_ ?_ | refine ad_ ?_ _)); exact BK910.out⟩
          have n3_ : Aside0 ((((w178.setCell ⟨gb955, 0, none⟩ (.bool true)).setCell ⟨gb955, 1, none⟩ (.int .i64 a1_1)).setCell ⟨gb955, 2, none⟩ (.slice Ao177 y952.length co177)).heap[gb911]? = some (.cells #[.bool false, .int .i64 0, .slice none 0 0] 93 (0, 0))) := ⟨by (with_reducible repeat (first | refine ac_ ?_ _ | refine ae_ ?_ | refine ad_ ?_ _)); refine blk_far ?_ NB911_955.out _; (with_reducible repeat (first | refine ac_ ?_ _ | refine ae_ ?_ | refine ad_ ?_ _)); refine blk_far ?_ NB911_955.out _; (with_reducible repeat (first | refine ac_ ?_ _ | refine ae_ ?_ | refine ad_ ?_ _)); refine blk_far ?_ NB911_955.out _; (with_reducible repeat (first | refine ac_ ?_ _ | refine ae_ ?_ | refine ad_ ?_ _)); exact BK911.out⟩
          have n4_ : Aside0 ((((w178.setCell ⟨gb955, 0, none⟩ (.bool true)).setCell ⟨gb955, 1, none⟩ (.int .i64 a1_1)).setCell ⟨gb955, 2, none⟩ (.slice Ao177 y952.length co177)).heap[gb913]? = some (.cells #[.int .i64 ((rd_T82 l0_1 a1_1).f0), .int .i64 ((rd_T82 l0_1 a1_1).f1)] 82 (0, 0))) := ⟨by (with_reducible repeat (first | refine ac_ ?_ _ | refine ae_ ?_ | refine ad_ ?_ _)); refine blk_far ?_ NB913_955.out _; (with_reducible repeat (first | refine ac_ ?_ _ | refine ae_ ?_ | refine ad_ ?_ _)); refine blk_far ?_ NB913_955.out _; (with_reducible repeat (first | refine ac_ ?_ _ | refine ae_ ?_ | refine ad_ ?_ _)); refine blk_far ?_ NB913_955.out _; (with_reducible repeat (first | refine ac_ ?_ _ | refine ae_ ?_ | refine ad_ ?_ _)); exact BK913.out⟩
          have n5_ : Aside0 ((((w178.setCell ⟨gb955, 0, none⟩ (.bool true)).setCell ⟨gb955, 1, none⟩ (.int .i64 a1_1)).setCell ⟨gb955, 2, none⟩ (.slice Ao177 y952.length co177)).heap[gb935]? = some (.cells #[.bool t929, .int .i64 t930, .slice Ao92 t931.length co92] 93 (0, 0))) := ⟨by (with_reducible repeat (first | refine ac_ ?_ _ | refine ae_ ?_ | refine ad_ ?_ _)); refine blk_far ?_ NB935_955.out _; (with_reducible repeat (first | refine ac_ ?_ _ | refine ae_ ?_ | refine ad_ ?_ _)); refine blk_far ?_ NB935_955.out _; (with_reducible repeat (first | refine ac_ ?_ _ | refine ae_ ?_ | refine ad_ ?_ _)); refine blk_far ?_ NB935_955.out _; (with_reducible repeat (first | refine ac_ ?_ _ | refine ae_ ?_ | refine ad_ ?_ _)); exact BK935.out⟩
          have n6_ : Aside0 ((((w178.setCell ⟨gb955, 0, none⟩ (.bool true)).setCell ⟨gb955, 1, none⟩ (.int .i64 a1_1)).setCell ⟨gb955, 2, none⟩ (.slice Ao177 y952.length co177)).heap[gb943]? = some (.cells #[.bool t937, .int .i64 t938, .slice Ao101 t939.length co101] 93 (0, 0))) := ⟨by (with_reducible repeat (first | refine ac_ ?_ _ | refine ae_ ?_ | refine ad_ ?_ _)); refine blk_far ?_ NB943_955.out _; (with_reducible repeat (first | refine ac_ ?_ _ | refine ae_ ?_ | refine ad_ ?_ _)); refine blk_far ?_ NB943_955.out _; (with_reducible repeat (first | refine ac_ ?_ _ | refine ae_ ?_ | refine ad_ ?_ _)); refine blk_far ?_ NB943_955.out _; (with_reducible repeat (first | refine ac_ ?_ _ | refine ae_ ?_ | refine ad_ ?_ _)); exact BK943.out⟩
          have n7_ : Aside0 ((((w178.setCell ⟨gb955, 0, none⟩ (.bool true)).setCell ⟨gb955, 1, none⟩ (.int .i64 a1_1)).setCell ⟨gb955, 2, none⟩ (.slice Ao177 y952.length co177)).heap[gb955]? = some (.cells #[.bool true, .int .i64 a1_1, .slice Ao177 y952.length co177] 93 (0, 0))) := ⟨by (with_reducible repeat (first | refine ac_ ?_ _ | refine ae_ ?_ | refine ad_ ?_ _)); refine blk_put (cs := #[.bool true, .int .i64 a1_1, .slice none 0 0]) ?_ 2 _ rfl; (with_reducible repeat (first | refine ac_ ?_ _ | refine ae_ ?_ | refine ad_ ?_ _)); refine blk_put (cs := #[.bool true, .int .i64 0, .slice none 0 0]) ?_ 1 _ rfl; (with_reducible repeat (first | refine ac_ ?_ _ | refine ae_ ?_ | refine ad_ ?_ _)); refine blk_put (cs := #[.bool false, .int .i64 0, .slice none 0 0]) ?_ 0 _ rfl; (with_reducible repeat (first | refine ac_ ?_ _ | refine ae_ ?_ | refine ad_ ?_ _)); exact BK955.out⟩
          have n8_ : Aside0 (Below w.heap.size w (((w178.setCell ⟨gb955, 0, none⟩ (.bool true)).setCell ⟨gb955, 1, none⟩ (.int .i64 a1_1)).setCell ⟨gb955, 2, none⟩ (.slice Ao177 y952.length co177))) := ⟨by repeat (first | (with_reducible first | exact HB.out | apply ai_ | apply ag_ | apply ah_ | refine af_ ?_ GE909.out | refine af_ ?_ GE910.out | refine af_ ?_ GE911.out | refine af_ ?_ GE913.out | refine af_ ?_ GE935.out | refine af_ ?_ GE943.out | refine af_ ?_ GE955.out) | exact HB.out)⟩
          (try clear HO954)
          (try clear BK909)
          (try clear BK910)
          (try clear BK911)
          (try clear BK913)
          (try clear BK935)
          (try clear BK943)
          (try clear BK955)
          (try clear HB)
          generalize (((w178.setCell ⟨gb955, 0, none⟩ (.bool true)).setCell ⟨gb955, 1, none⟩ (.int .i64 a1_1)).setCell ⟨gb955, 2, none⟩ (.slice Ao177 y952.length co177)) = w186 at n0_ n1_ n2_ n3_ n4_ n5_ n6_ n7_ n8_ ⊢
          have HO954 := n0_
          have BK909 := n1_
          have BK910 := n2_
          have BK911 := n3_
          have BK913 := n4_
          have BK935 := n5_
          have BK943 := n6_
          have BK955 := n7_
          have HB := n8_
          clear n0_ n1_ n2_ n3_ n4_ n5_ n6_ n7_ n8_
          have n0_ := ab_ (Kd.N_drew HO954.out)
          have n1_ := ab_ (ae_ BK909.out)
          have n2_ := ab_ (ae_ BK910.out)
          have n3_ := ab_ (ae_ BK911.out)
          have n4_ := ab_ (ae_ BK913.out)
          have n5_ := ab_ (ae_ BK935.out)
          have n6_ := ab_ (ae_ BK943.out)
          have n7_ := ab_ (ae_ BK955.out)
          have n8_ := ab_ (ah_ HB.out)
          clear HO954
          clear BK909
          clear BK910
          clear BK911
          clear BK913
          clear BK935
          clear BK943
          clear BK955
          clear HB
          have HO954 := n0_
          have BK909 := n1_
          have BK910 := n2_
          have BK911 := n3_
          have BK913 := n4_
          have BK935 := n5_
          have BK943 := n6_
          have BK955 := n7_
          have HB := n8_
          clear n0_ n1_ n2_ n3_ n4_ n5_ n6_ n7_ n8_
          refine start_ (n := 6) (S := fun w' => w'.cell? ⟨gb955, 0, none⟩ = some (.bool true) ∧ w'.cell? ⟨gb955, 1, none⟩ = some (.int .i64 a1_1) ∧ w'.cell? ⟨gb955, 2, none⟩ = some (.slice Ao177 y952.length co177)) (ds := []) #[false, false, false, false, false, false] (by kernel_rfl) rfl rfl ⟨(an_ BK955.out 0).trans rfl, (an_ BK955.out 1).trans rfl, (an_ BK955.out 2).trans rfl⟩ (fun hHeld => ?_)
          generalize w186.drew = w187 at HO954 BK909 BK910 BK911 BK913 BK935 BK943 BK955 HB hHeld ⊢
          refine take_ (i := 0) (N := some 103) (v := ?_) (a' := ?_) #[true, false, false, false, false, false] rfl rfl (by kernel_rfl) (fun _ _ _ h => h) (Or.inl ⟨by rfl, ?_⟩) hHeld ?_ ?_
          rotate_left
          · rintro w' ⟨s0, s1, s2⟩
            go_simp
            with_reducible rfl
          rotate_left
          · simp only [Act.put, List.setIfInBounds_toArray, List.set_cons_zero, List.set_cons_succ, i64_w, i32_w]
            rfl
          refine take_ (i := 1) (N := some 104) (v := ?_) (a' := ?_) #[true, true, false, false, false, false] rfl rfl (by kernel_rfl) (fun _ _ _ h => h) (Or.inl ⟨by rfl, ?_⟩) hHeld ?_ ?_
          rotate_left
          · rintro w' ⟨s0, s1, s2⟩
            go_simp
            with_reducible rfl
          rotate_left
          · simp only [Act.put, List.setIfInBounds_toArray, List.set_cons_zero, List.set_cons_succ, i64_w, i32_w]
            rfl
          refine one_ (i := 2) (N := some 105) #[true, true, true, false, false, false] rfl rfl (by kernel_rfl) (by decide) (fun K hK => ?_)
          refine goes_ Try.func99 (by kernel_rfl) rfl #[.agg #[.bool true, .int .i64 a1_1, .slice Ao177 y952.length co177]] (by rfl) rfl rfl (by (try simp only [List.map_toArray, List.map_cons, List.map_nil]); first | done | rfl | (simp only [List.length_drop, List.length_take]; rfl)) ?_
          with_reducible refine (spec_l9Size.calls kj70 true a1_1 _ _ y952 t956 _ ?side1 ?side2 A156.out).mono ?_
          (case side1 => repeat (first | exact (Kd.N_reads' HO954.out).2.2 | (with_reducible refine ar_ ?_ _) | (with_reducible refine as_ ?_ _) | (with_reducible refine Kd.C_drew ?_)))
          (case side2 => exact (Kd.N_reads' HO954.out).2.1)
          rintro e w188 ⟨rfl, hb⟩
          refine ⟨_, rfl, ?_⟩
          have n0_ := ab_ (Kd.N_below (by (with_reducible repeat (first | apply Kd.N_alloc | apply Kd.N_drewN | apply Kd.N_drew)); exact HO954.out) hb)
          have n1_ := ab_ (blk_below (g := gb909) (o := .cells #[.int .i64 a0_0, .slice (some ad912) l0_1.length c0_1] 29 (0, 0)) (by (with_reducible repeat (first | refine ac_ ?_ _ | refine ae_ ?_ | refine ad_ ?_ _)); exact BK909.out) hb)
          have n2_ := ab_ (blk_below (g := gb910) (o := .cells #[.bool true, .int .i64 a1_1, .slice (some ad928) l1_2.length c1_2] 93 (0, 0)) (by (with_reducible repeat (first | refine ac_ ?_ _ | refine ae_ ?_ | refine ad_ ?_ _)); exact BK910.out) hb)
          have n3_ := ab_ (blk_below (g := gb911) (o := .cells #[.bool false, .int .i64 0, .slice none 0 0] 93 (0, 0)) (by (with_reducible repeat (first | refine ac_ ?_ _ | refine ae_ ?_ | refine ad_ ?_ _)); exact BK911.out) hb)
          have n4_ := ab_ (blk_below (g := gb913) (o := .cells #[.int .i64 ((rd_T82 l0_1 a1_1).f0), .int .i64 ((rd_T82 l0_1 a1_1).f1)] 82 (0, 0)) (by (with_reducible repeat (first | refine ac_ ?_ _ | refine ae_ ?_ | refine ad_ ?_ _)); exact BK913.out) hb)
          have n5_ := ab_ (blk_below (g := gb935) (o := .cells #[.bool t929, .int .i64 t930, .slice Ao92 t931.length co92] 93 (0, 0)) (by (with_reducible repeat (first | refine ac_ ?_ _ | refine ae_ ?_ | refine ad_ ?_ _)); exact BK935.out) hb)
          have n6_ := ab_ (blk_below (g := gb943) (o := .cells #[.bool t937, .int .i64 t938, .slice Ao101 t939.length co101] 93 (0, 0)) (by (with_reducible repeat (first | refine ac_ ?_ _ | refine ae_ ?_ | refine ad_ ?_ _)); exact BK943.out) hb)
          have n7_ := ab_ (blk_below (g := gb955) (o := .cells #[.bool true, .int .i64 a1_1, .slice Ao177 y952.length co177] 93 (0, 0)) (by (with_reducible repeat (first | refine ac_ ?_ _ | refine ae_ ?_ | refine ad_ ?_ _)); exact BK955.out) hb)
          have n8_ := ab_ (au_ (by repeat (first | (with_reducible first | exact HB.out | apply ai_ | apply ag_ | apply ah_ | refine af_ ?_ GE909.out | refine af_ ?_ GE910.out | refine af_ ?_ GE911.out | refine af_ ?_ GE913.out | refine af_ ?_ GE935.out | refine af_ ?_ GE943.out | refine af_ ?_ GE955.out) | exact HB.out)) hb)
          clear HO954
          clear BK909
          clear BK910
          clear BK911
          clear BK913
          clear BK935
          clear BK943
          clear BK955
          clear HB
          have HO954 := n0_
          have BK909 := n1_
          have BK910 := n2_
          have BK911 := n3_
          have BK913 := n4_
          have BK935 := n5_
          have BK943 := n6_
          have BK955 := n7_
          have HB := n8_
          clear n0_ n1_ n2_ n3_ n4_ n5_ n6_ n7_ n8_
          (try clear hb)
          (try clear hb2)
          (try clear hk)
          (try clear hi)
          refine hK.out _ _ ⟨(an_ BK955.out 0).trans rfl, (an_ BK955.out 1).trans rfl, (an_ BK955.out 2).trans rfl⟩ (fun hHeld => ?_)
          clear hK K
          refine norm_ (a' := ?_) ?_ ?_
          rotate_left
          · show Act.put _ (some 105) _ = _
            simp only [Act.put, List.setIfInBounds_toArray, List.set_cons_zero, List.set_cons_succ, i64_w, i32_w]
            rfl
          refine pure_ (i := 3) (N := some 106) (v := ?_) (a' := ?_) #[true, true, true, true, false, false] rfl rfl (by kernel_rfl) (fun _ _ _ h => h) (Or.inl ⟨by rfl, ?_⟩) ?_ ?_
          rotate_left
          · intro w'
            go_simp
            with_reducible rfl
          rotate_left
          · simp only [Act.put, List.setIfInBounds_toArray, List.set_cons_zero, List.set_cons_succ, i64_w, i32_w]
            rfl
          refine one_ (i := 4) (N := none) #[true, true, true, true, true, false] rfl rfl (by kernel_rfl) (by decide) (fun K hK => ?_)
          have hs189 : w188.cell? ⟨gb911, 0, none⟩ = some (.bool false) := (an_ BK911.out 0).trans rfl
          have hfs189 := am_ BK911.out 0
          have hns189_0 := NB909_911.out
          have hns189_1 := NB910_911.out
          have hns189_3 := NB913_911.out
          have hns189_4 := NB935_911.out
          have hns189_5 := NB943_911.out
          have hns189_6 := NB955_911.out
          have hms189_0 := NB911_909.out
          have hms189_1 := NB911_910.out
          have hms189_3 := NB911_913.out
          have hms189_4 := NB911_935.out
          have hms189_5 := NB911_943.out
          have hms189_6 := NB911_955.out
          have hs190 : w188.cell? ⟨gb911, 1, none⟩ = some (.int .i64 0) := (an_ BK911.out 1).trans rfl
          have hfs190 := am_ BK911.out 1
          have hns190_0 := NB909_911.out
          have hns190_1 := NB910_911.out
          have hns190_3 := NB913_911.out
          have hns190_4 := NB935_911.out
          have hns190_5 := NB943_911.out
          have hns190_6 := NB955_911.out
          have hms190_0 := NB911_909.out
          have hms190_1 := NB911_910.out
          have hms190_3 := NB911_913.out
          have hms190_4 := NB911_935.out
          have hms190_5 := NB911_943.out
          have hms190_6 := NB911_955.out
          have hs191 : w188.cell? ⟨gb911, 2, none⟩ = some (.slice none 0 0) := (an_ BK911.out 2).trans rfl
          have hfs191 := am_ BK911.out 2
          have hns191_0 := NB909_911.out
          have hns191_1 := NB910_911.out
          have hns191_3 := NB913_911.out
          have hns191_4 := NB935_911.out
          have hns191_5 := NB943_911.out
          have hns191_6 := NB955_911.out
          have hms191_0 := NB911_909.out
          have hms191_1 := NB911_910.out
          have hms191_3 := NB911_913.out
          have hms191_4 := NB911_935.out
          have hms191_5 := NB911_943.out
          have hms191_6 := NB911_955.out
          refine skip_ (w1 := ?_) (by rfl) rfl ?_ ?_
          rotate_left
          · go_simp
            rfl
          refine hK.out _ _ ⟨((cw_ (p := ⟨gb911, _, none⟩) NB955_911.out _).trans (((cw_ (p := ⟨gb911, _, none⟩) NB955_911.out _).trans (((cw_ (p := ⟨gb911, _, none⟩) NB955_911.out _).trans (hHeld.1)))))), ((cw_ (p := ⟨gb911, _, none⟩) NB955_911.out _).trans (((cw_ (p := ⟨gb911, _, none⟩) NB955_911.out _).trans (((cw_ (p := ⟨gb911, _, none⟩) NB955_911.out _).trans (hHeld.2.1)))))), ((cw_ (p := ⟨gb911, _, none⟩) NB955_911.out _).trans (((cw_ (p := ⟨gb911, _, none⟩) NB955_911.out _).trans (((cw_ (p := ⟨gb911, _, none⟩) NB955_911.out _).trans (hHeld.2.2))))))⟩ (fun hHeld => ?_)
          clear hK K
          refine pure_ (i := 5) (N := some 5) (v := ?_) (a' := ?_) #[true, true, true, true, true, true] rfl rfl (by kernel_rfl) (fun _ _ _ h => h) (Or.inl ⟨by rfl, ?_⟩) ?_ ?_
          rotate_left
          · intro w'
            go_simp
            with_reducible rfl
          rotate_left
          · simp only [Act.put, List.setIfInBounds_toArray, List.set_cons_zero, List.set_cons_succ, i64_w, i32_w]
            rfl
          refine done_ (by kernel_rfl) ?_
          try go_wp2
          refine bodyPost_ret (results_ct rfl _ _ gb911 93 #[.bool true, .int .i64 a1_1, .slice Ao177 y952.length co177] (0, 0) _ rfl (by (with_reducible repeat (first | refine ac_ ?_ _ | refine ae_ ?_ | refine ad_ ?_ _)); refine blk_put (cs := #[.bool true, .int .i64 a1_1, .slice none 0 0]) ?_ 2 _ rfl; (with_reducible repeat (first | refine ac_ ?_ _ | refine ae_ ?_ | refine ad_ ?_ _)); refine blk_put (cs := #[.bool true, .int .i64 0, .slice none 0 0]) ?_ 1 _ rfl; (with_reducible repeat (first | refine ac_ ?_ _ | refine ae_ ?_ | refine ad_ ?_ _)); refine blk_put (cs := #[.bool false, .int .i64 0, .slice none 0 0]) ?_ 0 _ rfl; (with_reducible repeat (first | refine ac_ ?_ _ | refine ae_ ?_ | refine ad_ ?_ _)); exact BK911.out) Try.underlying93 rfl (by kernel_rfl)) rfl ?_
          exact ⟨_, by first | rfl | (simp [errW_none, errW_some] <;> rfl) | (simp [*, errW_none, errW_some] <;> rfl), by (with_reducible repeat (first | apply Kd.N_alloc | apply Kd.N_drewN | apply Kd.N_drew)); exact Kd.N_mono (Kd.N_far (p := ⟨gb911, 2, none⟩) (Kd.N_far (p := ⟨gb911, 1, none⟩) (Kd.N_far (p := ⟨gb911, 0, none⟩) (Kd.N_mono HO954.out (fun k_ hk => (⟨hk, hk.2.2.2.1⟩ : _ ∧ k_ ≠ gb911))) (fun _ hk => hk.2) (.bool true)) (fun _ hk => hk.2) (.int .i64 a1_1)) (fun _ hk => hk.2) (.slice Ao177 y952.length co177)) (fun _ hk => hk.1.1), by repeat (first | (with_reducible first | exact HB.out | apply ai_ | apply ag_ | apply ah_ | refine af_ ?_ GE909.out | refine af_ ?_ GE910.out | refine af_ ?_ GE911.out | refine af_ ?_ GE913.out | refine af_ ?_ GE935.out | refine af_ ?_ GE943.out | refine af_ ?_ GE955.out) | exact HB.out)⟩
end Go.Proofs.Ytjnaokdncemggaa.PAll

end
