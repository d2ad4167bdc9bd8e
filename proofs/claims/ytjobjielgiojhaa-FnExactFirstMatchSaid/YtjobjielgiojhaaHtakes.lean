/- takes, IndexFunc over patterns, FirstMatch by their contracts. -/
import Derived.Test.YtjobjielgiojhaaHpatD
namespace Go.Proofs.Ytjobjielgiojhaa.PAll
open Go.RowKit Go.Proofs.YtjobjielgiojhaaW.PrintWords Go.Proofs.YtjobjielgiojhaaW.PrintLast Go.Proofs.YtjobjielgiojhaaW.PrintMore
set_option linter.unusedVariables false
set_option linter.unusedSimpArgs false

mutual
/-- A value fits a pattern. -/
def Pt.takes : Pt → Pt → Bool
  | .mk any c ks, .mk _ c2 ks2 => any || (c == c2 && takesL ks ks2)
def takesL : List Pt → List Pt → Bool
  | [], _ => true
  | _ :: _, [] => false
  | k :: ks, v :: vs => k.takes v && takesL ks vs
end
mutual
/-- As many parts where the constructors are the same. -/
def Pt.fits : Pt → Pt → Prop
  | .mk any c ks, .mk _ c2 ks2 => any = false → c = c2 → ks.length ≤ 1000 ∧ fitsL ks ks2
def fitsL : List Pt → List Pt → Prop
  | [], [] => True
  | [], _ :: _ => False
  | _ :: _, [] => False
  | k :: ks, v :: vs => k.fits v ∧ fitsL ks vs
end

theorem fitsL.get : ∀ {ks vs : List Pt} {i : Nat} {k : Pt}, fitsL ks vs → ks[i]? = some k → ∃ v, vs[i]? = some v ∧ k.fits v
  | k0 :: ks, v0 :: vs, 0, k, h, e => by simp only [fitsL] at h; simp at e; subst e; exact ⟨v0, rfl, h.1⟩
  | k0 :: ks, v0 :: vs, i + 1, k, h, e => by simp only [fitsL] at h; simp only [List.getElem?_cons_succ] at e ⊢; exact fitsL.get h.2 e
  | [], vs, i, k, h, e => by simp at e
  | _ :: _, [], _, _, h, _ => by simp [fitsL] at h
theorem fitsL.len : ∀ {ks vs : List Pt}, fitsL ks vs → ks.length = vs.length
  | [], [], _ => rfl
  | k0 :: ks, v0 :: vs, h => by simp only [fitsL] at h; simp [fitsL.len h.2]
  | [], _ :: _, h => by simp [fitsL] at h
  | _ :: _, [], h => by simp [fitsL] at h

theorem takesL_drop {ks vs : List Pt} {i : Nat} {k v : Pt} (hk : ks[i]? = some k) (hv : vs[i]? = some v) : takesL (ks.drop i) (vs.drop i) = (k.takes v && takesL (ks.drop (i + 1)) (vs.drop (i + 1))) := by
  have h1 : i < ks.length := by rcases Nat.lt_or_ge i ks.length with h | h; exact h; rw [List.getElem?_eq_none h] at hk; cases hk
  have h2 : i < vs.length := by rcases Nat.lt_or_ge i vs.length with h | h; exact h; rw [List.getElem?_eq_none h] at hv; cases hv
  rw [List.drop_eq_getElem_cons h1, List.drop_eq_getElem_cons h2]
  rw [List.getElem?_eq_getElem h1] at hk
  rw [List.getElem?_eq_getElem h2] at hv
  injection hk with hk
  injection hv with hv
  rw [hk, hv]
  simp only [takesL]

set_option maxRecDepth 100000 in
set_option maxHeartbeats 2000000 in
theorem takes_calls (p : Pt) : ∀ (v : Pt) (gp gv : Nat) (S S' : Nat → Prop) (w : World), PAt S w gp p → PAt S' w gv v → p.fits v →
    Calls Try.prog 67 #[ptr gp, ptr gv] w fun e w' => e = .returned (.bool (p.takes v)) ∧ Below w.heap.size w w' := by
  induction p using Pt.ind with
  | h any c ks ih =>
  intro v gp gv S S' w hp hv hf
  cases v with | mk any2 c2 ks2 =>
  obtain ⟨A, ca, gs, hca, p0, p1, p2, hrow, hl⟩ := hp.cells
  obtain ⟨A2, ca2, gs2, hca2, q0, q1, q2, hrow2, hl2⟩ := hv.cells
  have hpb := (PAt.blk hp).2
  have hvb := (PAt.blk hv).2
  clear hp hv
  unfold ptr
  cases any with
  | true =>
    have e : (Pt.mk true c ks).takes (Pt.mk any2 c2 ks2) = true := by simp [Pt.takes]
    rw [e]
    clear e hrow hl hrow2 hl2 hf ih
    go_enter Try.func67, Try.ntmps67
    go_wp2
    go_ret
    exact ⟨rfl, Below.refl _ _⟩
  | false =>
    have e : (Pt.mk false c ks).takes (Pt.mk any2 c2 ks2) = (c == c2 && takesL ks ks2) := by simp [Pt.takes]
    rw [e]
    clear e
    by_cases hc : c = c2
    · subst hc
      obtain ⟨hks, hfl⟩ : ks.length ≤ 1000 ∧ fitsL ks ks2 := by unfold Pt.fits at hf; exact hf rfl rfl
      have hb : (c != c) = false := by simp
      have e : (c == c && takesL ks ks2) = takesL ks ks2 := by simp
      rw [e]
      clear e
      have hlen := hfl.len
      have HF := Lib.hid hfl
      have HRow := Lib.hid hrow
      have HL := Lib.hid hl
      have HRow2 := Lib.hid hrow2
      have HL2 := Lib.hid hl2
      have IH := Lib.hid ih
      have HLEN := Lib.hid hlen
      clear hf hrow hl hrow2 hl2 ih hfl hlen
      go_enter Try.func67, Try.ntmps67
      go_wp2
      go_region
      go_wp2
      clear hb p0 p1 q0 q1
      go_loopw [5, 6, 25] (fun v5 v6 v25 wr => ∃ i : Nat, i ≤ ks.length ∧ v25 = .int .i64 i ∧ Hid (takesL ks ks2 = takesL (ks.drop i) (ks2.drop i)) ∧ Below w.heap.size w wr) (fun _ _ v25 _ => ks.length - (intOf v25).toNat)
      case atStart => exact ⟨0, Nat.zero_le _, rfl, Lib.hid (by simp), below_drew1 (Below.refl _ _)⟩
      case round =>
        obtain ⟨i, hi, rfl, HT, HB⟩ := hrel
        have HB1 := Lib.hid HB
        by_cases hlt : i < ks.length
        · obtain ⟨k, hk⟩ : ∃ k, ks[i]? = some k := ⟨ks[i], by simp [hlt]⟩
          obtain ⟨v, hv, hfk⟩ := HF.out.get hk
          obtain ⟨g1, hg1, hP⟩ := QAt.get HL.out hk
          obtain ⟨g2, hg2, hV⟩ := QAt.get HL2.out hv
          obtain ⟨ad, hA, _, hcell⟩ := HRow.out i g1 hg1
          obtain ⟨ad2, hA2, _, hcell2⟩ := HRow2.out i g2 hg2
          subst hA hA2
          have i2 : i < ks2.length := by have := HLEN.out; omega
          have x1 : wr.cell? (ad.add i) = some (ptr g1) := (HB.cell (World.block_lt_of_cell? w _ hcell)).trans hcell
          have x2 : wr.cell? (ad2.add i) = some (ptr g2) := (HB.cell (World.block_lt_of_cell? w _ hcell2)).trans hcell2
          have x3 : wr.cell? ⟨gv, 2, none⟩ = some (.slice (some ad2) ks2.length ca2) := (HB.cell (p := ⟨gv, 2, none⟩) hvb).trans q2
          have hcall := IH.out k (List.mem_of_getElem? hk) v g1 g2 S S' wr (hP.below HB) (hV.below HB) hfk
          unfold ptr at x1 x2 hcall
          have HTD := Lib.hid (takesL_drop hk hv)
          clear hk hv hfk hg1 hg2 hP hV hcell hcell2 HB
          cases ht : k.takes v with
          | true =>
            rw [ht] at hcall
            have C67 := Lib.hid hcall
            have HTV := Lib.hid ht
            clear hcall ht
            go_wp2_with (go_at_call 67; (with_reducible refine C67.out.mono ?_); rintro e w2 ⟨rfl, hb2⟩; have HB2 := Lib.hid (below_step HB1.out hb2); clear hb2)
            go_roundw
            case rel => exact ⟨i + 1, by omega, by go_num, Lib.hid (by rw [HT.out, HTD.out, HTV.out, Bool.true_and]), HB2.out⟩
            case measure => simp [intOf]; omega
          | false =>
            rw [ht] at hcall
            have C67 := Lib.hid hcall
            have HTV := Lib.hid ht
            clear hcall ht
            go_wp2_with (go_at_call 67; (with_reducible refine C67.out.mono ?_); rintro e w2 ⟨rfl, hb2⟩; have HB2 := Lib.hid (below_step HB1.out hb2); clear hb2)
            go_ret
            exact ⟨by rw [HT.out, HTD.out, HTV.out]; rfl, HB2.out⟩
        · obtain rfl : i = ks.length := by omega
          clear HB
          go_wp2
          go_ret
          exact ⟨by rw [HT.out, List.drop_eq_nil_of_le (Nat.le_refl _)]; simp [takesL], HB1.out⟩
    · have hb : (c != c2) = true := by simp [hc]
      have e : (c == c2 && takesL ks ks2) = false := by simp [hc]
      rw [e]
      clear e hrow hl hrow2 hl2 hf ih hc
      go_enter Try.func67, Try.ntmps67
      go_wp2
      go_region
      go_wp2
      go_ret
      exact ⟨rfl, by repeat (first | exact Below.refl _ _ | apply below_drew1 | apply below_alloc)⟩
end Go.Proofs.Ytjobjielgiojhaa.PAll
