/- depth and DepthOf by their contracts. -/
import Derived.Test.YtkmobaffmlcaiaaHexprC
namespace Go.Proofs.Ytkmobaffmlcaiaa.PAll
open Go.RowKit Go.Proofs.YtkmobaffmlcaiaaW.PrintWords Go.Proofs.YtkmobaffmlcaiaaW.PrintLast Go.Proofs.YtkmobaffmlcaiaaW.PrintMore
attribute [local go_sem] max2_int min2_int max_two min_two
set_option linter.unusedVariables false
set_option linter.unusedSimpArgs false


theorem depthNil_calls (w : World) : Calls Try.prog 41 #[.pointer none] w fun e w' => e = .returned (.int .i64 0) ∧ w = w' := by
  go_enter Try.func41, Try.ntmps41
  go_wp2
  go_ret
  exact ⟨rfl, rfl⟩

set_option maxRecDepth 100000 in
set_option maxHeartbeats 4000000 in
theorem depth_calls (t : Xt) : ∀ (b g : Nat) (w : World), XAt b w g t → t.tall ≤ 1000 →
    Calls Try.prog 41 #[.pointer (some ⟨g, 0, none⟩)] w fun e w' => e = .returned (.int .i64 (t.dep : Int)) ∧ Below w.heap.size w w' := by
  induction t with
  | leaf k n s =>
    intro b g w h ht
    obtain ⟨h0, h1⟩ := h
    have CC : Hid (∀ W, Below w.heap.size w W → W.cell? ⟨g, 3, none⟩ = some (.pointer none) ∧ W.cell? ⟨g, 4, none⟩ = some (.pointer none)) := Lib.hid (fun W hW => ⟨(blk_cell ((hW.block _ (blk_lt h1)).trans h1) 3).trans rfl, (blk_cell ((hW.block _ (blk_lt h1)).trans h1) 4).trans rfl⟩)
    clear h0 h1
    go_enter Try.func41, Try.ntmps41
    go_wp2
    have S0 := CC.out w.drew (below_drew1 (Below.refl _ _))
    have C0 := Lib.hid (depthNil_calls w.drew)
    go_region_held3 (fun W => W.cell? ⟨g, 3, none⟩ = some (.pointer none) ∧ W.cell? ⟨g, 4, none⟩ = some (.pointer none)) (first | (with_reducible exact S0))
      (first | (go_at_call 41; (with_reducible refine C0.out.mono ?_); rintro e w1 ⟨rfl, rfl⟩) | fail)
    all_goals go_wp2
    all_goals go_ret
    all_goals exact ⟨rfl, by repeat (first | exact Below.refl _ _ | apply pw_below_drewN | apply below_drew1 | apply below_alloc)⟩
  | one k n s a ih =>
    intro b g w h ht
    obtain ⟨p, h0, h1, h2⟩ := h
    have ha := tall_le a
    simp only [Xt.tall] at ht
    have CC : Hid (∀ W, Below w.heap.size w W → W.cell? ⟨g, 3, none⟩ = some (.pointer (some ⟨p, 0, none⟩)) ∧ W.cell? ⟨g, 4, none⟩ = some (.pointer none)) := Lib.hid (fun W hW => ⟨(blk_cell ((hW.block _ (blk_lt h1)).trans h1) 3).trans rfl, (blk_cell ((hW.block _ (blk_lt h1)).trans h1) 4).trans rfl⟩)
    have C0 := Lib.hid (ih b p w.drew (h2.below (below_drew1 (Below.refl _ _))) (by omega))
    have E := Lib.hid (show ((Xt.one k n s a).dep : Int) = 1 + (a.dep : Int) from by simp only [Xt.dep]; omega)
    have hw : IntKind.i64.wrap (1 + (a.dep : Int)) = 1 + (a.dep : Int) := by simp only [i64_w]; unfold wrap64; omega
    have hn : ¬ ((a.dep : Int) < 0) := by omega
    clear h0 h1 h2 ih
    go_enter Try.func41, Try.ntmps41
    go_wp2
    have S0 := CC.out w.drew (below_drew1 (Below.refl _ _))
    go_region_held3 (fun W => W.cell? ⟨g, 3, none⟩ = some (.pointer (some ⟨p, 0, none⟩)) ∧ W.cell? ⟨g, 4, none⟩ = some (.pointer none)) (first | (with_reducible exact S0) | (with_reducible exact S1))
      (first
      | (go_at_call 41; (with_reducible refine C0.out.mono ?_); rintro e w1 ⟨rfl, hb⟩; have HB1 := Lib.hid (show Below w.heap.size w w1 from below_step (below_drew1 (Below.refl _ _)) hb); have S1 := CC.out w1 HB1.out; have C1 := Lib.hid (depthNil_calls w1); clear hb)
      | (go_at_call 41; (with_reducible refine C1.out.mono ?_); rintro e w2 ⟨rfl, rfl⟩))
    all_goals go_wp2
    all_goals go_ret
    all_goals (rw [E.out]; exact ⟨rfl, HB1.out⟩)
  | two k n s a c iha ihc =>
    intro b g w h ht
    obtain ⟨p, q, h0, h1, h2, h3⟩ := h
    have ha := tall_le a
    have hc := tall_le c
    simp only [Xt.tall] at ht
    have CC : Hid (∀ W, Below w.heap.size w W → W.cell? ⟨g, 3, none⟩ = some (.pointer (some ⟨p, 0, none⟩)) ∧ W.cell? ⟨g, 4, none⟩ = some (.pointer (some ⟨q, 0, none⟩))) := Lib.hid (fun W hW => ⟨(blk_cell ((hW.block _ (blk_lt h1)).trans h1) 3).trans rfl, (blk_cell ((hW.block _ (blk_lt h1)).trans h1) 4).trans rfl⟩)
    have C0 := Lib.hid (iha b p w.drew (h2.below (below_drew1 (Below.refl _ _))) (by omega))
    have CQ := Lib.hid (fun W (hW : Below w.heap.size w W) => ihc b q W (h3.below hW) (by omega))
    clear h0 h1 h2 h3 iha ihc
    by_cases hlt : (a.dep : Int) < (c.dep : Int)
    · have E := Lib.hid (show ((Xt.two k n s a c).dep : Int) = 1 + (c.dep : Int) from by simp only [Xt.dep]; omega)
      have hw : IntKind.i64.wrap (1 + (c.dep : Int)) = 1 + (c.dep : Int) := by simp only [i64_w]; unfold wrap64; omega
      go_enter Try.func41, Try.ntmps41
      go_wp2
      have S0 := CC.out w.drew (below_drew1 (Below.refl _ _))
      go_region_held3 (fun W => W.cell? ⟨g, 3, none⟩ = some (.pointer (some ⟨p, 0, none⟩)) ∧ W.cell? ⟨g, 4, none⟩ = some (.pointer (some ⟨q, 0, none⟩))) (first | (with_reducible exact S0) | (with_reducible exact S1) | (with_reducible exact S2))
        (first
        | (go_at_call 41; (with_reducible refine C0.out.mono ?_); rintro e w1 ⟨rfl, hb⟩; have HB1 := Lib.hid (show Below w.heap.size w w1 from below_step (below_drew1 (Below.refl _ _)) hb); have S1 := CC.out w1 HB1.out; have C1 := Lib.hid (CQ.out w1 HB1.out); clear hb)
        | (go_at_call 41; (with_reducible refine C1.out.mono ?_); rintro e w2 ⟨rfl, hb⟩; have HB2 := Lib.hid (show Below w.heap.size w w2 from below_step HB1.out hb); have S2 := CC.out w2 HB2.out; clear hb))
      all_goals go_wp2
      all_goals go_ret
      all_goals (rw [E.out]; exact ⟨rfl, HB2.out⟩)
    · have E := Lib.hid (show ((Xt.two k n s a c).dep : Int) = 1 + (a.dep : Int) from by simp only [Xt.dep]; omega)
      have hw : IntKind.i64.wrap (1 + (a.dep : Int)) = 1 + (a.dep : Int) := by simp only [i64_w]; unfold wrap64; omega
      go_enter Try.func41, Try.ntmps41
      go_wp2
      have S0 := CC.out w.drew (below_drew1 (Below.refl _ _))
      go_region_held3 (fun W => W.cell? ⟨g, 3, none⟩ = some (.pointer (some ⟨p, 0, none⟩)) ∧ W.cell? ⟨g, 4, none⟩ = some (.pointer (some ⟨q, 0, none⟩))) (first | (with_reducible exact S0) | (with_reducible exact S1) | (with_reducible exact S2))
        (first
        | (go_at_call 41; (with_reducible refine C0.out.mono ?_); rintro e w1 ⟨rfl, hb⟩; have HB1 := Lib.hid (show Below w.heap.size w w1 from below_step (below_drew1 (Below.refl _ _)) hb); have S1 := CC.out w1 HB1.out; have C1 := Lib.hid (CQ.out w1 HB1.out); clear hb)
        | (go_at_call 41; (with_reducible refine C1.out.mono ?_); rintro e w2 ⟨rfl, hb⟩; have HB2 := Lib.hid (show Below w.heap.size w w2 from below_step HB1.out hb); have S2 := CC.out w2 HB2.out; clear hb))
      all_goals go_wp2
      all_goals go_ret
      all_goals (rw [E.out]; exact ⟨rfl, HB2.out⟩)

set_option maxRecDepth 100000 in
theorem DepthOf_calls (l : List S60) (A : Option Addr) (c : Nat) (w : World) (hs : ∀ x ∈ l, x.f2.size ≤ maxLen) (hr : Kd.C k60 w A l.length l) (hc : l.length ≤ c) :
    Calls Try.prog 25 #[.slice A l.length c] w fun e w' => e = .returned (.tuple #[.int .i64 (depthOf l).1, .bool (depthOf l).2]) ∧ Below w.heap.size w w' := by
  have H := Lib.hid (exprOf_calls l A c w hs hr hc)
  cases hx : xof l with
  | none =>
    have e : depthOf l = (0, false) := by unfold depthOf; rw [hx]
    rw [e]
    have HX := Lib.hid hx
    clear hx hs hr e
    go_enter Try.func25, Try.ntmps25
    go_wp2_with (go_at_call 38; refine H.out.mono ?_; rw [HX.out]; rintro e w' ⟨hb, rfl⟩)
    go_ret2
    exact ⟨rfl, hb⟩
  | some t =>
    have e : depthOf l = ((t.dep : Int), true) := by unfold depthOf; rw [hx]
    rw [e]
    have ht := (xof_tall hx).1
    have HX := Lib.hid hx
    clear hx hs hr e
    go_enter Try.func25, Try.ntmps25
    go_wp2_with (first | (go_at_call 38; refine H.out.mono ?_; rw [HX.out]; rintro e w1 ⟨hb, g, rfl, hg⟩) | (go_at_call 41; refine (depth_calls t _ g _ hg (by omega)).mono ?_; rintro e w2 ⟨rfl, hb2⟩))
    go_ret2
    exact ⟨rfl, below_step hb hb2⟩
end Go.Proofs.Ytkmobaffmlcaiaa.PAll
