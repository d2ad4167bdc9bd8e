-- Made by pack.py of the texts that the law reaches.
import Derived.Deep.OwnRows
import Derived.Deep.RegionHeld3
import Derived.Deep.RegionLaw
import Derived.Deep.RegionWith
import Derived.Lib.Hide
import Derived.Outline
import Derived.Test.YtgoiifpimpnlpaaV1
section
namespace Go.Proofs.Ytgoiifpimpnlpaa.PAll
open Go.RowKit Go.Proofs.YtgoiifpimpnlpaaW.PrintWords Go.Proofs.YtgoiifpimpnlpaaW.PrintLast Go.Proofs.YtgoiifpimpnlpaaW.PrintMore
set_option linter.unusedVariables false
set_option linter.unusedSimpArgs false
inductive Tm where
  | mk (kind n : Int) (kids : List Tm)
theorem Tm.ind {P : Tm → Prop} (h : ∀ k n ks, (∀ t ∈ ks, P t) → P (.mk k n ks)) : ∀ t, P t := by
  intro t
  refine Tm.rec (motive_1 := P) (motive_2 := fun ks => ∀ t ∈ ks, P t) (fun k n ks ih => h k n ks ih) (fun t ht => by cases ht) (fun t ks ht hks x hx => ?_) t
  rcases List.mem_cons.1 hx with rfl | hx
  · exact ht
  · exact hks x hx
def cap (x : Int) : Int := if 1000000 < x then 1000000 else x
mutual
def Tm.size : Tm → Int
  | .mk _ _ ks => cap (1 + sizes ks)
def sizes : List Tm → Int
  | [] => 0
  | t :: ts => t.size + sizes ts
end
theorem Tm.size_bd (t : Tm) : 1 ≤ t.size ∧ t.size ≤ 1000000 := by
  refine Tm.rec (motive_1 := fun t => 1 ≤ t.size ∧ t.size ≤ 1000000) (motive_2 := fun ks => 0 ≤ sizes ks) (fun k n ks ih => ?_) (by simp [sizes]) (fun t ks ht hks => ?_) t
  · simp only [Tm.size, cap]; split <;> omega
  · simp only [sizes]; omega
theorem sizes_bd (ks : List Tm) : 0 ≤ sizes ks ∧ sizes ks ≤ 1000000 * ks.length := by
  induction ks with
  | nil => simp [sizes]
  | cons t ts ih => have := t.size_bd; simp only [sizes, List.length_cons]; omega
theorem sizes_append (a b : List Tm) : sizes (a ++ b) = sizes a + sizes b := by
  induction a with
  | nil => simp [sizes]
  | cons t ts ih => simp only [List.cons_append, sizes, ih]; omega
def ptr (g : Nat) : Value := .pointer (some ⟨g, 0, none⟩)
def PtrRow (S : Nat → Prop) (w : World) (A : Option Addr) (gs : List Nat) : Prop :=
  ∀ i p, gs[i]? = some p → ∃ ad, A = some ad ∧ S ad.block ∧ w.cell? (ad.add i) = some (ptr p)
mutual
/-- The pointer to block g leads to the term; all its blocks are in S. -/
def TAt (S : Nat → Prop) (w : World) : Nat → Tm → Prop
  | g, .mk k n ks => ∃ A c gs, S g ∧ ks.length ≤ c ∧ w.heap[g]? = some (.cells #[.int .i64 k, .int .i64 n, .slice A ks.length c, .int .i64 (Tm.mk k n ks).size] 80 (0, 0)) ∧ PtrRow S w A gs ∧ LAt S w gs ks
def LAt (S : Nat → Prop) (w : World) : List Nat → List Tm → Prop
  | [], [] => True
  | g :: gs, t :: ts => TAt S w g t ∧ LAt S w gs ts
  | _, _ => False
end
theorem LAt.length {S : Nat → Prop} {w : World} : ∀ {gs : List Nat} {ts : List Tm}, LAt S w gs ts → gs.length = ts.length
  | [], [], _ => rfl
  | g :: gs, t :: ts, h => by simp only [LAt] at h; simp [LAt.length h.2]
  | [], _ :: _, h => by simp [LAt] at h
  | _ :: _, [], h => by simp [LAt] at h
theorem LAt.get {S : Nat → Prop} {w : World} : ∀ {gs : List Nat} {ts : List Tm} {i : Nat} {t : Tm}, LAt S w gs ts → ts[i]? = some t → ∃ g, gs[i]? = some g ∧ TAt S w g t
  | g :: gs, t :: ts, 0, u, h, e => by simp only [LAt] at h; simp at e; subst e; exact ⟨g, rfl, h.1⟩
  | g :: gs, t :: ts, i + 1, u, h, e => by simp only [LAt] at h; simp only [List.getElem?_cons_succ] at e ⊢; exact LAt.get h.2 e
  | [], [], i, u, h, e => by simp at e
  | [], _ :: _, _, _, h, _ => by simp [LAt] at h
  | _ :: _, [], _, _, h, _ => by simp [LAt] at h
theorem LAt.snoc {S : Nat → Prop} {w : World} : ∀ {gs : List Nat} {ts : List Tm} {g : Nat} {t : Tm}, LAt S w gs ts → TAt S w g t → LAt S w (gs ++ [g]) (ts ++ [t])
  | [], [], g, t, _, h => by simp only [List.nil_append, LAt]; exact ⟨h, trivial⟩
  | g0 :: gs, t0 :: ts, g, t, h0, h => by simp only [LAt] at h0; simp only [List.cons_append, LAt]; exact ⟨h0.1, LAt.snoc h0.2 h⟩
  | [], _ :: _, _, _, h, _ => by simp [LAt] at h
  | _ :: _, [], _, _, h, _ => by simp [LAt] at h
theorem PtrRow.step {S S' : Nat → Prop} {w w1 : World} {A : Option Addr} {gs : List Nat} (h : PtrRow S w A gs) (hm : ∀ k, S k → k < w.heap.size → w1.heap[k]? = w.heap[k]?) (hS : ∀ k, S k → k < w.heap.size → S' k) : PtrRow S' w1 A gs := by
  intro i p hp
  obtain ⟨ad, e, hs, hc⟩ := h i p hp
  have hlt : (ad.add i).block < w.heap.size := aa_ w _ hc
  have eb : (ad.add i).block = ad.block := by unfold Addr.add; split <;> simp_all
  rw [eb] at hlt
  refine ⟨ad, e, hS _ hs hlt, ?_⟩
  have := hm _ hs hlt
  have e2 : w1.cell? (ad.add i) = w.cell? (ad.add i) := by simp [World.cell?, eb, this]
  rw [e2]; exact hc
theorem TAt.step {S S' : Nat → Prop} {w w1 : World} (hm : ∀ k, S k → k < w.heap.size → w1.heap[k]? = w.heap[k]?) (hS : ∀ k, S k → k < w.heap.size → S' k) : ∀ {t : Tm} {g : Nat}, TAt S w g t → TAt S' w1 g t := by
  intro t
  refine Tm.rec (motive_1 := fun t => ∀ {g : Nat}, TAt S w g t → TAt S' w1 g t) (motive_2 := fun ts => ∀ {gs : List Nat}, LAt S w gs ts → LAt S' w1 gs ts) (fun k n ks ih => ?_) ?_ (fun t ts ht hts => ?_) t
  · intro g h
    simp only [TAt] at h ⊢
    obtain ⟨A, c, gs, hg, hc, hh, hr, hl⟩ := h
    exact ⟨A, c, gs, hS _ hg (blk_lt hh), hc, (hm _ hg (blk_lt hh)).trans hh, hr.step hm hS, ih hl⟩
  · intro gs h
    cases gs with
    | nil => simp [LAt]
    | cons => simp [LAt] at h
  · intro gs h
    cases gs with
    | nil => simp [LAt] at h
    | cons g gs => simp only [LAt] at h ⊢; exact ⟨ht h.1, hts h.2⟩
theorem LAt.step {S S' : Nat → Prop} {w w1 : World} (hm : ∀ k, S k → k < w.heap.size → w1.heap[k]? = w.heap[k]?) (hS : ∀ k, S k → k < w.heap.size → S' k) : ∀ {ts : List Tm} {gs : List Nat}, LAt S w gs ts → LAt S' w1 gs ts
  | [], [], _ => by simp [LAt]
  | t :: ts, g :: gs, h => by simp only [LAt] at h ⊢; exact ⟨TAt.step hm hS h.1, LAt.step hm hS h.2⟩
  | [], _ :: _, h => by simp [LAt] at h
  | _ :: _, [], h => by simp [LAt] at h
theorem TAt.below {S : Nat → Prop} {w w1 : World} {t : Tm} {g : Nat} (h : TAt S w g t) (hb : Below w.heap.size w w1) : TAt S w1 g t := TAt.step (fun k _ hk => hb.block k hk) (fun _ h _ => h) h
theorem LAt.below {S : Nat → Prop} {w w1 : World} {ts : List Tm} {gs : List Nat} (h : LAt S w gs ts) (hb : Below w.heap.size w w1) : LAt S w1 gs ts := LAt.step (fun k _ hk => hb.block k hk) (fun _ h _ => h) h
theorem PtrRow.below {S : Nat → Prop} {w w1 : World} {A : Option Addr} {gs : List Nat} (h : PtrRow S w A gs) (hb : Below w.heap.size w w1) : PtrRow S w1 A gs := h.step (fun k _ hk => hb.block k hk) (fun _ h _ => h)
theorem TAt.cells {S : Nat → Prop} {w : World} {g : Nat} {k n : Int} {ks : List Tm} (h : TAt S w g (.mk k n ks)) : ∃ A c gs, ks.length ≤ c ∧ w.cell? ⟨g, 0, none⟩ = some (.int .i64 k) ∧ w.cell? ⟨g, 1, none⟩ = some (.int .i64 n) ∧ w.cell? ⟨g, 2, none⟩ = some (.slice A ks.length c) ∧ w.cell? ⟨g, 3, none⟩ = some (.int .i64 (Tm.mk k n ks).size) ∧ PtrRow S w A gs ∧ LAt S w gs ks := by
  simp only [TAt] at h
  obtain ⟨A, c, gs, hg, hc, hh, hr, hl⟩ := h
  exact ⟨A, c, gs, hc, (am_ hh 0).trans rfl, (am_ hh 1).trans rfl, (am_ hh 2).trans rfl, (am_ hh 3).trans rfl, hr, hl⟩
theorem TAt.size_cell {S : Nat → Prop} {w : World} {g : Nat} {t : Tm} (h : TAt S w g t) : w.cell? ⟨g, 3, none⟩ = some (.int .i64 t.size) := by
  cases t with | mk k n ks => obtain ⟨A, c, gs, _, _, _, _, h3, _⟩ := h.cells; exact h3
set_option maxRecDepth 100000 in
set_option maxHeartbeats 1000000 in
theorem newTerm_calls (S : Nat → Prop) (k n : Int) (ts : List Tm) (A : Option Addr) (c : Nat) (gs : List Nat) (w : World) (hn : ts.length ≤ 1000) (hc : ts.length ≤ c) (hr : PtrRow S w A gs) (hl : LAt S w gs ts) (hS : ∀ k, w.heap.size ≤ k → S k) :
    Calls Try.prog 93 #[.int .i64 k, .int .i64 n, .slice A ts.length c] w fun e w' => ∃ g, e = .returned (ptr g) ∧ w.heap.size ≤ g ∧ TAt S w' g (.mk k n ts) ∧ Below w.heap.size w w' := by
  have HR := Lib.hid hr
  have HL := Lib.hid hl
  clear hr hl
  go_enter Try.func93, Try.ntmps93
  go_wp2
  go_loopw [7, 9, 12] (fun v7 v9 v12 wr => ∃ i : Nat, i ≤ ts.length ∧ v12 = .int .i64 i ∧ v7 = .int .i64 (1 + sizes (ts.take i)) ∧ wr = w) (fun _ _ v12 _ => ts.length - (intOf v12).toNat)
  case atStart => exact ⟨0, Nat.zero_le _, rfl, by simp [sizes], rfl⟩
  case round =>
    obtain ⟨i, hi, rfl, rfl, rfl⟩ := hrel
    by_cases hlt : i < ts.length
    · obtain ⟨t, ht⟩ : ∃ t, ts[i]? = some t := ⟨ts[i], by simp [hlt]⟩
      obtain ⟨g, hg, hT⟩ := LAt.get HL.out ht
      obtain ⟨ad, rfl, hSa, hcell⟩ := HR.out i g hg
      have hsz := hT.size_cell
      have hbd := t.size_bd
      have hsb := sizes_bd (ts.take i)
      have htl : (ts.take i).length ≤ 1000 := by simp; omega
      have hsum : sizes (ts.take (i + 1)) = sizes (ts.take i) + t.size := by rw [List.take_add_one, ht, sizes_append]; simp [sizes]
      have HS := Lib.hid hsum
      have HT := Lib.hid ht
      unfold ptr at hcell
      clear hsum ht hT hg hSa
      go_wp2
      go_roundw
      case rel => exact ⟨i + 1, by omega, by go_num, by rw [HS.out]; simp; omega, by trivial⟩
      case measure => simp [intOf]; omega
    · obtain rfl : i = ts.length := by omega
      have hsb := sizes_bd ts
      have htk : ts.take ts.length = ts := List.take_length
      rw [htk]
      clear htk
      by_cases hcap : 1000000 < 1 + sizes ts
      · have e : (Tm.mk k n ts).size = 1000000 := by simp [Tm.size, cap, hcap]
        have E := Lib.hid e
        clear e
        go_wp2
        go_ret
        refine ⟨_, rfl, Nat.le_refl _, ?_, ai_ (Below.refl _ _) _⟩
        simp only [TAt]
        exact ⟨A, c, gs, hS _ (Nat.le_refl _), hc, by rw [E.out]; exact blk_new _ _, HR.out.below (ai_ (Below.refl _ _) _), HL.out.below (ai_ (Below.refl _ _) _)⟩
      · have e : (Tm.mk k n ts).size = 1 + sizes ts := by simp [Tm.size, cap, hcap]
        have E := Lib.hid e
        clear e
        go_wp2
        go_ret
        refine ⟨_, rfl, Nat.le_refl _, ?_, ai_ (Below.refl _ _) _⟩
        simp only [TAt]
        exact ⟨A, c, gs, hS _ (Nat.le_refl _), hc, by rw [E.out]; exact blk_new _ _, HR.out.below (ai_ (Below.refl _ _) _), HL.out.below (ai_ (Below.refl _ _) _)⟩
end Go.Proofs.Ytgoiifpimpnlpaa.PAll

end

section
namespace Go.Proofs.Ytgoiifpimpnlpaa.PAll
open Go.RowKit Go.Proofs.YtgoiifpimpnlpaaW.PrintWords Go.Proofs.YtgoiifpimpnlpaaW.PrintLast Go.Proofs.YtgoiifpimpnlpaaW.PrintMore
set_option linter.unusedVariables false
set_option linter.unusedSimpArgs false
theorem within_yes (n lo hi : Int) (w : World) (h0 : lo ≤ n) (h1 : n ≤ hi) : Calls Try.prog 53 #[.int .i64 n, .int .i64 lo, .int .i64 hi] w fun e w' => e = .returned (.bool true) ∧ w = w' := by
  have c0 : decide (lo ≤ n) = true := aq_ h0
  have c1 : decide (n ≤ hi) = true := aq_ h1
  clear h0 h1
  go_enter Try.func53, Try.ntmps53
  go_wp2
  go_ret
  exact ⟨rfl, rfl⟩
theorem within_no (n lo hi : Int) (w : World) (h : ¬ (lo ≤ n ∧ n ≤ hi)) : Calls Try.prog 53 #[.int .i64 n, .int .i64 lo, .int .i64 hi] w fun e w' => e = .returned (.bool false) ∧ w = w' := by
  by_cases h0 : lo ≤ n
  · have c0 : decide (lo ≤ n) = true := aq_ h0
    have c1 : decide (n ≤ hi) = false := decide_eq_false (fun x => h ⟨h0, x⟩)
    clear h0 h
    go_enter Try.func53, Try.ntmps53
    go_wp2
    go_ret
    exact ⟨rfl, rfl⟩
  · have c0 : decide (lo ≤ n) = false := decide_eq_false h0
    clear h0 h
    go_enter Try.func53, Try.ntmps53
    go_wp2
    go_ret
    exact ⟨rfl, rfl⟩
theorem within_calls (n lo hi : Int) (w : World) : Calls Try.prog 53 #[.int .i64 n, .int .i64 lo, .int .i64 hi] w fun e w' => e = .returned (.bool (decide (lo ≤ n ∧ n ≤ hi))) ∧ w = w' := by
  by_cases h : lo ≤ n ∧ n ≤ hi
  · rw [aq_ h]; exact within_yes n lo hi w h.1 h.2
  · rw [decide_eq_false h]; exact within_no n lo hi w h
def arI (k : Int) : Int := if k = 1 then 0 else if k = 2 then 0 else if k = 3 then 1 else if k = 4 then 2 else if k = 5 then 2 else if k = 7 then 2 else if k = 6 then 3 else -1
set_option maxRecDepth 100000 in
theorem kidsOf_calls (k : Int) (w : World) : Calls Try.prog 92 #[.int .i64 k] w fun e w' => e = .returned (.int .i64 (arI k)) ∧ w = w' := by
  by_cases h1 : k = 1
  · subst h1; go_enter Try.func92, Try.ntmps92; go_wp2; go_ret; exact ⟨rfl, rfl⟩
  by_cases h2 : k = 2
  · subst h2; go_enter Try.func92, Try.ntmps92; go_wp2; go_ret; exact ⟨rfl, rfl⟩
  by_cases h3 : k = 3
  · subst h3; go_enter Try.func92, Try.ntmps92; go_wp2; go_ret; exact ⟨rfl, rfl⟩
  by_cases h4 : k = 4
  · subst h4; go_enter Try.func92, Try.ntmps92; go_wp2; go_ret; exact ⟨rfl, rfl⟩
  by_cases h5 : k = 5
  · subst h5; go_enter Try.func92, Try.ntmps92; go_wp2; go_ret; exact ⟨rfl, rfl⟩
  by_cases h7 : k = 7
  · subst h7; go_enter Try.func92, Try.ntmps92; go_wp2; go_ret; exact ⟨rfl, rfl⟩
  by_cases h6 : k = 6
  · subst h6; go_enter Try.func92, Try.ntmps92; go_wp2; go_ret; exact ⟨rfl, rfl⟩
  have e : arI k = -1 := by simp [arI, h1, h2, h3, h4, h5, h6, h7]
  rw [e]
  have b1 : (k == 1) = false := by simp [h1]
  have b2 : (k == 2) = false := by simp [h2]
  have b3 : (k == 3) = false := by simp [h3]
  have b4 : (k == 4) = false := by simp [h4]
  have b5 : (k == 5) = false := by simp [h5]
  have b6 : (k == 6) = false := by simp [h6]
  have b7 : (k == 7) = false := by simp [h7]
  clear h1 h2 h3 h4 h5 h6 h7 e
  go_enter Try.func92, Try.ntmps92
  go_wp2
  go_ret
  exact ⟨rfl, rfl⟩
theorem arI_bd (k : Int) : -1 ≤ arI k ∧ arI k ≤ 3 := by unfold arI; repeat' split
                                                        all_goals omega
def cellB (x : S66) : Bool := if x.f0 = 1 then decide (0 ≤ x.f1 ∧ x.f1 ≤ 99) else if x.f0 = 2 then decide (-1000000 ≤ x.f1 ∧ x.f1 ≤ 1000000) else decide (0 < arI x.f0) && decide (x.f1 = 0)
set_option maxRecDepth 100000 in
theorem cellOk_calls (x : S66) (w : World) : Calls Try.prog 91 #[.agg #[.int .i64 x.f0, .int .i64 x.f1]] w fun e w' => e = .returned (.bool (cellB x)) ∧ Below w.heap.size w w' := by
  by_cases h1 : x.f0 = 1
  · have e : cellB x = decide (0 ≤ x.f1 ∧ x.f1 ≤ 99) := by simp [cellB, h1]
    have E := Lib.hid e
    have b1 : (x.f0 == 1) = true := by simp [h1]
    clear h1 e
    go_enter Try.func91, Try.ntmps91
    go_wp2_with (go_at_call 53; refine (within_calls _ _ _ _).mono ?_; rintro e w' ⟨rfl, rfl⟩)
    go_ret
    exact ⟨by rw [E.out]; first | rfl | simp, ai_ (Below.refl _ _) _⟩
  have b1 : (x.f0 == 1) = false := by simp [h1]
  by_cases h2 : x.f0 = 2
  · have e : cellB x = decide (-1000000 ≤ x.f1 ∧ x.f1 ≤ 1000000) := by simp [cellB, h2]
    have E := Lib.hid e
    have b2 : (x.f0 == 2) = true := by simp [h2]
    clear h1 h2 e
    go_enter Try.func91, Try.ntmps91
    go_wp2_with (go_at_call 53; refine (within_calls _ _ _ _).mono ?_; rintro e w' ⟨rfl, rfl⟩)
    go_ret
    exact ⟨by rw [E.out]; first | rfl | simp, ai_ (Below.refl _ _) _⟩
  have b2 : (x.f0 == 2) = false := by simp [h2]
  by_cases h3 : 0 < arI x.f0
  · have e : cellB x = (x.f1 == 0) := by simp only [cellB]; rw [if_neg h1, if_neg h2, aq_ h3]; rfl
    have E := Lib.hid e
    clear h1 h2 e
    go_enter Try.func91, Try.ntmps91
    go_wp2_with (go_at_call 92; refine (kidsOf_calls _ _).mono ?_; rintro e w' ⟨rfl, rfl⟩)
    go_ret
    exact ⟨by rw [E.out]; first | rfl | simp, ai_ (Below.refl _ _) _⟩
  · have e : cellB x = false := by simp only [cellB]; rw [if_neg h1, if_neg h2, decide_eq_false h3]; rfl
    rw [e]
    clear h1 h2 e
    go_enter Try.func91, Try.ntmps91
    go_wp2_with (go_at_call 92; refine (kidsOf_calls _ _).mono ?_; rintro e w' ⟨rfl, rfl⟩)
    go_ret
    exact ⟨rfl, ai_ (Below.refl _ _) _⟩
end Go.Proofs.Ytgoiifpimpnlpaa.PAll

end

section
namespace Go.Proofs.Ytgoiifpimpnlpaa.PAll
open Go.RowKit Go.Proofs.YtgoiifpimpnlpaaW.PrintWords Go.Proofs.YtgoiifpimpnlpaaW.PrintLast Go.Proofs.YtgoiifpimpnlpaaW.PrintMore
set_option linter.unusedVariables false
set_option linter.unusedSimpArgs false
theorem info66' : (Try.prog.info? 66).map (fun i => (i.zero, i.size, i.bytes)) = some (some (.agg #[(.int .i64 0), (.int .i64 0)]), 2, 16) := by kernel_rfl
theorem info69 : (Try.prog.info? 69).map (fun i => (i.zero, i.size, i.bytes)) = some (some (.pointer none), 1, 8) := by kernel_rfl
def mkids (f : List S66 → Option (Tm × List S66)) : Nat → List S66 → Option (List Tm × List S66)
  | 0, r => some ([], r)
  | m + 1, r => match f r with
    | none => none
    | some (t, r1) => match mkids f m r1 with
      | none => none
      | some (ts, r2) => some (t :: ts, r2)
def mparse : Nat → List S66 → Option (Tm × List S66)
  | 0, _ => none
  | _ + 1, [] => none
  | k + 1, x :: r => if cellB x = true then match mkids (mparse k) (arI x.f0).toNat r with
      | none => none
      | some (ts, r') => some (.mk x.f0 x.f1 ts, r')
    else none
theorem mkids_len {f : List S66 → Option (Tm × List S66)} (hf : ∀ l t r, f l = some (t, r) → r.length < l.length) : ∀ m l ts r, mkids f m l = some (ts, r) → r.length ≤ l.length ∧ ts.length = m := by
  intro m
  induction m with
  | zero => intro l ts r h; simp [mkids] at h; obtain ⟨rfl, rfl⟩ := h; simp
  | succ m ih =>
    intro l ts r h
    simp only [mkids] at h
    cases h1 : f l with
    | none => rw [h1] at h; simp at h
    | some p =>
      obtain ⟨t, r1⟩ := p
      rw [h1] at h
      simp only at h
      cases h2 : mkids f m r1 with
      | none => rw [h2] at h; simp at h
      | some q =>
        obtain ⟨ts', r2⟩ := q
        rw [h2] at h
        simp at h
        obtain ⟨rfl, rfl⟩ := h
        have := hf _ _ _ h1
        have := ih _ _ _ h2
        simp; omega
theorem mparse_len : ∀ (k : Nat) (l : List S66) (t : Tm) (r : List S66), mparse k l = some (t, r) → r.length < l.length := by
  intro k
  induction k with
  | zero => intro l t r h; simp [mparse] at h
  | succ k ih =>
    intro l t r h
    cases l with
    | nil => simp [mparse] at h
    | cons x l =>
      simp only [mparse] at h
      split at h
      · cases h1 : mkids (mparse k) (arI x.f0).toNat l with
        | none => rw [h1] at h; simp at h
        | some p =>
          obtain ⟨ts, r1⟩ := p
          rw [h1] at h
          simp at h
          obtain ⟨_, rfl⟩ := h
          have := mkids_len ih _ _ _ _ h1
          simp; omega
      · simp at h
def TFrom (r : Option (Tm × List S66)) (w0 w : World) (e : Ending) (w' : World) : Prop :=
  Below w.heap.size w w' ∧ match r with
  | none => e = .returned (.tuple #[.pointer none, .slice none 0 0])
  | some (t, rest) => ∃ g A c, e = .returned (.tuple #[ptr g, .slice A rest.length c]) ∧ TAt (fun k => w.heap.size ≤ k) w' g t ∧ Kd.C k66 w0 A rest.length rest ∧ rest.length ≤ c
def Mid (k a : Nat) (r0 : List S66) (b : Nat) (w0 w wr : World) (j : Nat) (v5 : Value) : Prop :=
  ∃ (ts : List Tm) (gs : List Nat) (arr : Array Value) (rj : List S66) (A5 : Option Addr) (c5 : Nat),
    ts.length = j ∧ v5 = .slice A5 rj.length c5 ∧ Kd.C k66 w0 A5 rj.length rj ∧ rj.length ≤ c5 ∧ rj.length ≤ r0.length ∧
    wr.heap[b]? = some (.cells arr 69 (0, 0)) ∧ arr.size = a ∧ (∀ i p : Nat, gs[i]? = some p → arr[i]? = some (ptr p)) ∧ LAt (fun q => b < q) wr gs ts ∧ Below w.heap.size w wr ∧
    mkids (mparse k) a r0 = match mkids (mparse k) (a - j) rj with
      | none => none
      | some (ts', r') => some (ts ++ ts', r')
theorem Mid_step {k a : Nat} {r0 : List S66} {b : Nat} {w0 w wr w2 : World} {j : Nat} {ts : List Tm} {gs : List Nat} {arr : Array Value} {rj r1 : List S66} {t : Tm} {g : Nat} {A6 : Option Addr} {c6 : Nat}
    (hts : ts.length = j) (hlt : j < a) (hrl : rj.length ≤ r0.length) (hblk : wr.heap[b]? = some (.cells arr 69 (0, 0))) (hsz : arr.size = a) (harr : ∀ i p : Nat, gs[i]? = some p → arr[i]? = some (ptr p)) (hL : LAt (fun q => b < q) wr gs ts) (hBw : Below w.heap.size w wr) (hwb : w.heap.size ≤ b)
    (hpar : mkids (mparse k) a r0 = match mkids (mparse k) (a - j) rj with
      | none => none
      | some (ts', r') => some (ts ++ ts', r')) (hq : mparse k rj = some (t, r1)) (hb2 : Below wr.heap.size wr w2) (hT : TAt (fun q => wr.heap.size ≤ q) w2 g t) (hC6 : Kd.C k66 w0 A6 r1.length r1) (hc6 : r1.length ≤ c6) :
    Mid k a r0 b w0 w (w2.setCell ⟨b, j, none⟩ (ptr g)) (j + 1) (.slice A6 r1.length c6) := by
  have hblt := blk_lt hblk
  have hgl := hL.length
  have hl1 := mparse_len _ _ _ _ hq
  have hset : ∀ q, b < q → (w2.setCell ⟨b, j, none⟩ (ptr g)).heap[q]? = w2.heap[q]? := fun q h => Below.heap_setCell w2 ⟨b, j, none⟩ _ q (by simp; omega)
  refine ⟨ts ++ [t], gs ++ [g], arr.setIfInBounds j (ptr g), r1, A6, c6, by simp [hts], rfl, hC6, hc6, by omega, blk_set ((hb2.block b hblt).trans hblk) j _, by simpa using hsz, ?_, ?_, af_ (below_then hBw hBw.size hb2) hwb, ?_⟩
  · intro i p hp
    by_cases hi : i < gs.length
    · rw [List.getElem?_append_left hi] at hp
      rw [Array.getElem?_setIfInBounds_ne (by omega)]
      exact harr i p hp
    · rw [List.getElem?_append_right (by omega)] at hp
      have e : i - gs.length = 0 := by
        rcases Nat.eq_zero_or_pos (i - gs.length) with h | h
        · exact h
        · rw [List.getElem?_eq_none (by simp; omega)] at hp; cases hp
      rw [e] at hp
      simp at hp
      subst hp
      obtain rfl : i = j := by omega
      rw [Array.getElem?_setIfInBounds_self_of_lt (by omega)]
  · refine LAt.snoc (LAt.step (fun q h _ => hset q h) (fun _ h _ => h) (hL.below hb2)) (TAt.step (fun q h _ => hset q (by omega)) (fun q h _ => ?_) hT)
    show b < q
    omega
  · rw [hpar, show a - j = (a - (j + 1)) + 1 by omega]
    simp only [mkids]
    rw [hq]
    simp only
    cases mkids (mparse k) (a - (j + 1)) r1 with
    | none => rfl
    | some p => simp
set_option maxRecDepth 100000 in
set_option maxHeartbeats 2000000 in
theorem termFrom_calls (k : Nat) : ∀ (l : List S66) (A : Option Addr) (c : Nat) (w0 w : World), l.length < k → Below w0.heap.size w0 w → Kd.C k66 w0 A l.length l → l.length ≤ c →
    Calls Try.prog 54 #[.slice A l.length c] w (TFrom (mparse k l) w0 w) := by
  induction k with
  | zero => intro l A c w0 w h; omega
  | succ k ih =>
    intro l A c w0 w hk hW hr hc
    cases l with
    | nil =>
      go_enter Try.func54, Try.ntmps54
      go_wp2
      go_ret2
      exact ⟨Below.refl _ _, rfl⟩
    | cons x l =>
      simp only [List.length_cons] at hk hc hr ⊢
      obtain ⟨ad, rfl, hc0, hc1⟩ := at_T66 (Kd.C_below hr hW) 0 (by omega) (by omega)
      have e0 : ad.add (Int.toNat 0 * 2) = ad := by simp [Addr.add]
      rw [e0, show rd_T66 (x :: l) 0 = x from rfl] at hc0 hc1
      clear e0
      obtain ⟨A1, hd, hcut⟩ : ∃ A1, Kd.C k66 w0 A1 l.length l ∧ ∀ W : World, (Instr.slice 25 (.slice (some ad) (l.length + 1) c) (some (.int .i64 1)) none none).run Try.prog W = .ok (.slice A1 l.length (c - 1)) W := by
        obtain ⟨i0, hi0, _, hsz, _⟩ := info_parts info66'
        refine ⟨_, Kd.C_drop (k := k66) (m := 1) hr (by simp) hc, fun W => ?_⟩
        rw [cut_from (P := Try.prog) 25 66 .i64 Try.underlying25 hi0 2 hsz (some ad) (l.length + 1) c 1 (by omega) (by omega)]
        rfl
      have HD := Lib.hid hd
      have HR := Lib.hid hr
      have IH := Lib.hid ih
      clear hd hr ih
      cases hb : cellB x with
      | false =>
        have e : mparse (k + 1) (x :: l) = none := by simp only [mparse]; rw [if_neg (by simp [hb])]
        rw [e]
        have HB := Lib.hid hb
        clear e hb
        go_enter Try.func54, Try.ntmps54
        go_wp2_with (go_at_call 91; refine (cellOk_calls x _).mono ?_; rw [HB.out]; rintro e w' ⟨rfl, hb1⟩)
        go_ret2
        exact ⟨hb1, rfl⟩
      | true =>
        have ha : 0 ≤ arI x.f0 := by
          unfold cellB at hb
          split at hb
          · simp [arI, *]
          · split at hb
            · simp [arI, *]
            · simp at hb; omega
        obtain ⟨a, haa⟩ : ∃ a : Nat, arI x.f0 = (a : Int) := ⟨(arI x.f0).toNat, by omega⟩
        have ha3 : a ≤ 3 := by have := arI_bd x.f0; omega
        have hp : mparse (k + 1) (x :: l) = match mkids (mparse k) a l with
            | none => none
            | some (ts, r') => some (.mk x.f0 x.f1 ts, r') := by simp only [mparse]; rw [if_pos hb, haa]; rfl
        have hmk : ∀ W, (Instr.makeSlice 78 (.int .i64 (a : Int)) (.int .i64 (a : Int))).run Try.prog W = .ok (.slice (some ⟨W.heap.size, 0, none⟩) a a) (W.alloc (.cells (madeCells #[.pointer none] a) 69)) := run_make_row' 78 69 (.pointer none) 8 Try.underlying78 info69 rfl .i64 .i64 a (by omega) (by omega)
        have HB := Lib.hid hb
        have HA := Lib.hid haa
        have HP := Lib.hid hp
        clear hb haa hp ha
        go_enter Try.func54, Try.ntmps54
        go_wp2_with (go_at_call 91; refine (cellOk_calls x _).mono ?_; rw [HB.out]; rintro e w1 ⟨rfl, hb1⟩)
        have hc01 : w1.cell? ad = some (.int .i64 x.f0) := (hb1.cell (aa_ w _ hc0)).trans hc0
        have hc11 : w1.cell? ⟨ad.block, ad.off + 1, none⟩ = some (.int .i64 x.f1) := (hb1.cell (aa_ w _ hc1)).trans hc1
        have hd01 : ∀ o, (w1.alloc o).cell? ad = some (.int .i64 x.f0) := fun o => (World.cell?_alloc_lt _ _ _ (aa_ w1 _ hc01)).trans hc01
        go_region_with (go_at_call 92; refine (kidsOf_calls _ _).mono ?_; rw [HA.out]; rintro e w' ⟨rfl, rfl⟩)
        go_wp2
        obtain ⟨b, hbb⟩ : ∃ b, b = w1.heap.size := ⟨_, rfl⟩
        rw [← hbb]
        have hwb : w.heap.size ≤ b := by rw [hbb]; exact hb1.size
        have hB0 : Below w.heap.size w (w1.alloc (.cells (madeCells #[.pointer none] a) 69)).drew := below_drew (ai_ hb1 _)
        have hM : Mid k a l b w0 w (w1.alloc (.cells (madeCells #[.pointer none] a) 69)).drew 0 (.slice A1 l.length (c - 1)) := by
          refine ⟨[], [], madeCells #[.pointer none] a, l, A1, c - 1, rfl, rfl, HD.out, by omega, Nat.le_refl _, by rw [hbb]; exact ae_ (blk_new w1 _), size_madeCells _ _, by simp, by simp [LAt], hB0, ?_⟩
          rw [Nat.sub_zero]
          cases mkids (mparse k) a l with
          | none => rfl
          | some p => rfl
        have HM := Lib.hid hM
        clear hM hB0 hd01
        have HBB := Lib.hid hbb
        clear hbb
        go_loopw [5, 6, 27] (fun v5 v6 v27 wr => ∃ j : Nat, j ≤ a ∧ v27 = .int .i64 j ∧ Mid k a l b w0 w wr j v5) (fun _ _ v27 _ => a - (intOf v27).toNat)
        case atStart => exact ⟨0, Nat.zero_le _, rfl, HM.out⟩
        case round =>
          obtain ⟨j, hj, rfl, ts, gs, arr, rj, A5, c5, hts, rfl, hC, hc5, hrl, hblk, hsz, harr, hL, hBw, hpar⟩ := hrel
          have hblt := blk_lt hblk
          by_cases hlt : j < a
          · have HC := Lib.hid hC
            have HL := Lib.hid hL
            have HPAR := Lib.hid hpar
            have HARR := Lib.hid harr
            have HBLK := Lib.hid hblk
            have HTS := Lib.hid hts
            have HSZ := Lib.hid hsz
            clear hC hL hpar harr hblk hts hsz HM
            obtain ⟨old, hold⟩ : ∃ old, arr[j]? = some old := ⟨arr[j]'(by have := HSZ.out; omega), by have := HSZ.out; simp⟩
            have HOLD := Lib.hid hold
            clear hold
            cases hq : mparse k rj with
            | none =>
              have HQ := Lib.hid hq
              clear hq
              go_wp2_with fail
              refine (IH.out rj A5 c5 w0 _ (by omega) (ar_ hW hBw) HC.out hc5).mono ?_
              rw [HQ.out]
              rintro e w2 ⟨hb2, rfl⟩
              have hk2 : w2.cell? ⟨b, j, none⟩ = some old := (am_ ((hb2.block b hblt).trans HBLK.out) j).trans HOLD.out
              have hf2 : w2.frozen? ⟨b, j, none⟩ = false := al_ ((hb2.block b hblt).trans HBLK.out) j
              go_wp2
              go_ret2
              have hbw2 : Below w.heap.size w w2 := below_then hBw hBw.size hb2
              refine ⟨af_ hbw2 hwb, ?_⟩
              rw [HP.out, HPAR.out, show a - j = (a - j - 1) + 1 by omega]
              simp only [mkids]
              rw [HQ.out]
              rfl
            | some q =>
              obtain ⟨t, r1⟩ := q
              have hl1 := mparse_len _ _ _ _ hq
              have HQ := Lib.hid hq
              clear hq
              go_wp2_with fail
              refine (IH.out rj A5 c5 w0 _ (by omega) (ar_ hW hBw) HC.out hc5).mono ?_
              rw [HQ.out]
              rintro e w2 ⟨hb2, g, A6, c6, rfl, hT, hC6, hc6⟩
              have hk2 : w2.cell? ⟨b, j, none⟩ = some old := (am_ ((hb2.block b hblt).trans HBLK.out) j).trans HOLD.out
              have hf2 : w2.frozen? ⟨b, j, none⟩ = false := al_ ((hb2.block b hblt).trans HBLK.out) j
              unfold ptr
              have HT := Lib.hid hT
              have HC6 := Lib.hid hC6
              clear hT hC6
              go_wp2
              go_roundw
              case rel => exact ⟨j + 1, by omega, by go_num, Mid_step HTS.out hlt hrl HBLK.out HSZ.out HARR.out HL.out hBw hwb HPAR.out HQ.out hb2 HT.out HC6.out hc6⟩
              case measure => simp [intOf]; omega
          · obtain rfl : j = a := by omega
            subst hts
            rw [Nat.sub_self] at hpar
            simp only [mkids, List.append_nil] at hpar
            have hrow : PtrRow (fun q => w.heap.size ≤ q) wr (some ⟨b, 0, none⟩) gs := fun i p hp => ⟨⟨b, 0, none⟩, rfl, hwb, by rw [add_plain]; exact (am_ hblk i).trans (harr i p hp)⟩
            have hL2 : LAt (fun q => w.heap.size ≤ q) wr gs ts := LAt.step (fun _ _ _ => rfl) (fun q h _ => Nat.le_trans hwb (Nat.le_of_lt h)) hL
            have hcr0 : wr.cell? ad = some (.int .i64 x.f0) := (hBw.cell (aa_ w _ hc0)).trans hc0
            have hcr1 : wr.cell? ⟨ad.block, ad.off + 1, none⟩ = some (.int .i64 x.f1) := (hBw.cell (aa_ w _ hc1)).trans hc1
            have HC := Lib.hid hC
            have HL := Lib.hid hL2
            have HROW := Lib.hid hrow
            have HPAR := Lib.hid hpar
            clear hC hL hL2 hrow hpar harr hblk hsz HM hmk
            go_wp2
            go_region_with (go_at_call 93; refine (newTerm_calls (fun q => w.heap.size ≤ q) x.f0 x.f1 ts (some ⟨b, 0, none⟩) ts.length gs _ (by omega) (Nat.le_refl _) (HROW.out.below (below_drew (Below.refl _ _))) (HL.out.below (below_drew (Below.refl _ _))) (fun q h => Nat.le_trans hBw.size h)).mono ?_; rintro e w3 ⟨g, rfl, hg, hT, hb3⟩)
            all_goals
              (go_wp2)
              (unfold ptr)
              (go_ret2)
              (refine ⟨ar_ (below_drew hBw) hb3, ?_⟩)
              (rw [HP.out, HPAR.out])
              (exact ⟨g, A5, c5, rfl, hT, HC.out, hc5⟩)
def tmof (l : List S66) : Option Tm := if l.length ≤ 600 then match mparse 601 l with
  | some (t, []) => some t
  | _ => none
  else none
def TOf (r : Option Tm) (w : World) (e : Ending) (w' : World) : Prop :=
  Below w.heap.size w w' ∧ match r with
  | none => e = .returned (.pointer none)
  | some t => ∃ g, e = .returned (ptr g) ∧ TAt (fun k => w.heap.size ≤ k) w' g t
set_option maxRecDepth 100000 in
theorem termOf_calls (l : List S66) (A : Option Addr) (c : Nat) (w : World) (hr : Kd.C k66 w A l.length l) (hc : l.length ≤ c) :
    Calls Try.prog 49 #[.slice A l.length c] w (TOf (tmof l) w) := by
  by_cases h60 : l.length ≤ 600
  · cases hq : mparse 601 l with
    | none =>
      have e : tmof l = none := by simp [tmof, h60, hq]
      rw [e]
      have HQ := Lib.hid hq
      clear hq e
      go_enter Try.func49, Try.ntmps49
      go_wp2_with (go_at_call 54; refine (termFrom_calls 601 l A c w _ (by omega) (Below.refl _ _) hr hc).mono ?_; rw [HQ.out]; rintro e w1 ⟨hb, rfl⟩)
      go_ret
      exact ⟨hb, rfl⟩
    | some p =>
      obtain ⟨t, r⟩ := p
      cases r with
      | nil =>
        have e : tmof l = some t := by simp [tmof, h60, hq]
        rw [e]
        have HQ := Lib.hid hq
        clear hq e
        go_enter Try.func49, Try.ntmps49
        go_wp2_with (go_at_call 54; refine (termFrom_calls 601 l A c w _ (by omega) (Below.refl _ _) hr hc).mono ?_; rw [HQ.out]; rintro e w1 ⟨hb, g, A1, c1, rfl, ha, hr1, hc1⟩; simp only [List.length_nil]; unfold ptr)
        go_ret
        exact ⟨hb, g, rfl, ha⟩
      | cons x r =>
        have e : tmof l = none := by simp [tmof, h60, hq]
        rw [e]
        have HQ := Lib.hid hq
        clear hq e
        go_enter Try.func49, Try.ntmps49
        go_wp2_with (go_at_call 54; refine (termFrom_calls 601 l A c w _ (by omega) (Below.refl _ _) hr hc).mono ?_; rw [HQ.out]; rintro e w1 ⟨hb, g, A1, c1, rfl, ha, hr1, hc1⟩; simp only [List.length_cons]; unfold ptr)
        go_ret
        exact ⟨hb, rfl⟩
  · have e : tmof l = none := by simp [tmof, h60]
    rw [e]
    clear e
    have h61 : 600 < l.length := by omega
    clear h60
    go_enter Try.func49, Try.ntmps49
    go_wp2
    go_ret
    exact ⟨Below.refl _ _, rfl⟩
end Go.Proofs.Ytgoiifpimpnlpaa.PAll

end

section
namespace Go.Proofs.Ytgoiifpimpnlpaa.PAll
open Go.RowKit Go.Proofs.YtgoiifpimpnlpaaW.PrintWords Go.Proofs.YtgoiifpimpnlpaaW.PrintLast Go.Proofs.YtgoiifpimpnlpaaW.PrintMore
set_option linter.unusedVariables false
set_option linter.unusedSimpArgs false
mutual
/-- The reference's tree. -/
def tv : Tm → S62
  | .mk k n ks => ⟨k, n, tvs ks⟩
def tvs : List Tm → List S62
  | [] => []
  | t :: ts => tv t :: tvs ts
end
theorem tvs_map (ts : List Tm) : tvs ts = ts.map tv := by
  induction ts with
  | nil => rfl
  | cons t ts ih => simp [tvs, ih]
theorem l1In_eq (n lo hi : Int) : spec_l1In.f n lo hi = some (decide (lo ≤ n ∧ n ≤ hi)) := by
  unfold spec_l1In.f
  by_cases h : lo ≤ n <;> simp [h]
theorem arity_eq (x : Int) (k : Nat) (hk : 2 ≤ k) : spec_l3Arity.f k x = some (arI x) := by
  obtain ⟨k, rfl⟩ : ∃ q, k = q + 2 := ⟨k - 2, by omega⟩
  simp only [spec_l3Arity.f, spec_l3Arity.j0, spec_l3Arity.j1, arI]
  by_cases h1 : x = 1
  · subst h1; rfl
  by_cases h2 : x = 2
  · subst h2; rfl
  by_cases h3 : x = 3
  · subst h3; rfl
  by_cases h4 : x = 4
  · subst h4; rfl
  by_cases h5 : x = 5
  · subst h5; rfl
  by_cases h7 : x = 7
  · subst h7; rfl
  by_cases h6 : x = 6
  · subst h6; rfl
  simp [h1, h2, h3, h4, h5, h6, h7]
theorem cell_eq (x : S66) (k : Nat) (hk : 2 ≤ k) : spec_l3Cell.f k x.f0 x.f1 = some (cellB x) := by
  unfold spec_l3Cell.f cellB
  rw [l1In_eq, l1In_eq, arity_eq _ k hk]
  by_cases h1 : x.f0 = 1
  · simp [h1]
  · by_cases h2 : x.f0 = 2
    · simp [h2]
    · rw [if_neg h1, if_neg h2, if_neg h1, if_neg h2]
      by_cases h3 : x.f1 = 0
      · simp [h3]
      · simp [h3]
theorem rd66_drop (l : List S66) (i : Nat) (x : S66) (r : List S66) (h : l.drop i = x :: r) : rd_T66 l (i : Int) = x := by
  have : l[i]? = some x := by rw [← List.head?_drop, h]; rfl
  simp [rd_T66, List.getD_eq_getElem?_getD, this]
def ReadsAs (l : List S66) (r : Option (Tm × List S66)) (o : Option (Int × Int × List S62 × Int)) : Prop :=
  match r with
  | none => ∃ a b c, o = some (a, b, c, 0)
  | some (t, rest) => o = some ((tv t).f0, (tv t).f1, (tv t).f2, ((l.length - rest.length : Nat) : Int)) ∧ l.drop (l.length - rest.length) = rest
theorem l3Kids_eq (l : List S66) (hm : l.length ≤ 1000) (m : Nat) (ih : ∀ (i : Nat) (r : List S66), l.drop i = r → i ≤ l.length → r.length < m → ∀ k, 6 * m ≤ k → ReadsAs l (mparse m r) (spec_l3Read.f k l (i : Int))) (a0 a1 : Int) :
    ∀ (q i : Nat) (r : List S66) (acc : List S62), l.drop i = r → i ≤ l.length → r.length < m → acc.length + q ≤ 10 → 1 ≤ i → ∀ k, 6 * m + q + 1 ≤ k →
    match mkids (mparse m) q r with
    | none => ∃ a b c, spec_l3Read.l0 k l (i : Int) (q : Int) a0 a1 acc = some (a, b, c, 0)
    | some (ts, rest) => spec_l3Read.l0 k l (i : Int) (q : Int) a0 a1 acc = some (a0, a1, acc ++ tvs ts, ((l.length - rest.length : Nat) : Int)) ∧ l.drop (l.length - rest.length) = rest := by
  intro q
  induction q with
  | zero =>
    intro i r acc hr hi hrm ha h1 k hk
    obtain ⟨k, rfl⟩ : ∃ q, k = q + 1 := ⟨k - 1, by omega⟩
    have hlen : r.length = l.length - i := by rw [← hr]; simp
    simp only [mkids, tvs, List.append_nil]
    have e : l.length - r.length = i := by omega
    rw [e]
    refine ⟨?_, hr⟩
    simp only [spec_l3Read.l0]
    rw [if_neg (by omega)]
  | succ q ihq =>
    intro i r acc hr hi hrm ha h1 k hk
    obtain ⟨k, rfl⟩ : ∃ q, k = q + 1 := ⟨k - 1, by omega⟩
    have hS : spec_l3Read.l0 (k + 1) l (i : Int) ((q + 1 : Nat) : Int) a0 a1 acc = (spec_l3Read.f k l (i : Int)).bind fun bt112 => (if bt112.2.2.2 = 0 then (some (0, 0, ([] : List (S62)), 0)) else (if acc.length < 3518437208883 then (spec_l3Read.l0 k l bt112.2.2.2 (q : Int) a0 a1 (acc ++ [(⟨bt112.1, bt112.2.1, bt112.2.2.1⟩ : S62)])) else (none))) := by
      simp only [spec_l3Read.l0]
      rw [if_pos (by omega), wrap_id (by omega) (by omega), show ((q + 1 : Nat) : Int) - 1 = (q : Int) by omega]
    rw [hS]
    clear hS
    have A := ih i r hr hi hrm k (by omega)
    simp only [mkids]
    cases hq : mparse m r with
    | none =>
      rw [hq] at A
      obtain ⟨a, b, c, A⟩ := A
      simp only [A, Option.bind_some, if_true]
      exact ⟨0, 0, [], rfl⟩
    | some p =>
      obtain ⟨t, r1⟩ := p
      rw [hq] at A
      obtain ⟨A, A'⟩ := A
      have hl1 := mparse_len _ _ _ _ hq
      have hlen : r.length = l.length - i := by rw [← hr]; simp
      simp only [A, Option.bind_some]
      rw [if_neg (by omega), if_pos (by omega)]
      have B := ihq (l.length - r1.length) r1 (acc ++ [(⟨(tv t).f0, (tv t).f1, (tv t).f2⟩ : S62)]) A' (by omega) (by omega) (by simp; omega) (by omega) k (by omega)
      cases hq2 : mkids (mparse m) q r1 with
      | none => rw [hq2] at B; exact B
      | some p2 =>
        obtain ⟨ts, r2⟩ := p2
        rw [hq2] at B
        obtain ⟨B, B'⟩ := B
        refine ⟨?_, B'⟩
        rw [B]
        simp only [tvs, List.append_assoc, List.singleton_append]
        cases tv t
        rfl
theorem l3Read_eq (l : List S66) (hm : l.length ≤ 1000) : ∀ (m : Nat) (i : Nat) (r : List S66), l.drop i = r → i ≤ l.length → r.length < m → ∀ k, 6 * m ≤ k → ReadsAs l (mparse m r) (spec_l3Read.f k l (i : Int)) := by
  intro m
  induction m with
  | zero => intro i r _ _ h; omega
  | succ m ih =>
    intro i r hr hi hrm k hk
    obtain ⟨k, rfl⟩ : ∃ q, k = q + 2 := ⟨k - 2, by omega⟩
    cases r with
    | nil =>
      have : l.length ≤ i := by have := congrArg List.length hr; simp at this; omega
      simp only [mparse, ReadsAs]
      refine ⟨0, 0, [], ?_⟩
      simp only [spec_l3Read.f]
      rw [if_pos (by omega)]
      simp [spec_l3Read.j0]
    | cons x r =>
      have hlen : l.length - i = r.length + 1 := by have := congrArg List.length hr; simp at this; omega
      have hr1 : l.drop (i + 1) = r := by rw [← List.drop_drop, hr]; rfl
      have hx := rd66_drop l i x r hr
      have hm1 : r.length < m := by simp at hrm; omega
      have hS : spec_l3Read.f (k + 2) l (i : Int) = if cellB x = true then spec_l3Read.l0 k l ((i : Int) + 1) (arI x.f0) x.f0 x.f1 [] else some (0, 0, [], 0) := by
        simp only [spec_l3Read.f]
        rw [if_neg (by omega), if_pos (by omega), if_pos (by omega), hx, cell_eq x (k + 1) (by omega)]
        simp only [Option.bind_some, spec_l3Read.j0]
        cases hb : cellB x with
        | false => simp
        | true =>
          simp only [Bool.not_true, Bool.false_eq_true, if_false, if_true]
          rw [if_pos (by omega), if_pos (by omega), hx, arity_eq _ k (by omega), wrap_id (by omega) (by omega)]
          rfl
      rw [hS]
      clear hS
      cases hb : cellB x with
      | false =>
        have hc : mparse (m + 1) (x :: r) = none := by simp only [mparse]; rw [if_neg (by simp [hb])]
        rw [hc, if_neg (by simp)]
        exact ⟨0, 0, [], rfl⟩
      | true =>
        rw [if_pos rfl]
        have ha : 0 ≤ arI x.f0 := by
          unfold cellB at hb
          split at hb
          · simp [arI, *]
          · split at hb
            · simp [arI, *]
            · simp at hb; omega
        have ha3 := arI_bd x.f0
        obtain ⟨a, haa⟩ : ∃ a : Nat, arI x.f0 = (a : Int) := ⟨(arI x.f0).toNat, by omega⟩
        have hp : mparse (m + 1) (x :: r) = match mkids (mparse m) a r with
            | none => none
            | some (ts, r') => some (.mk x.f0 x.f1 ts, r') := by simp only [mparse]; rw [if_pos hb, haa]; rfl
        rw [hp, haa]
        have K := l3Kids_eq l hm m ih x.f0 x.f1 a (i + 1) r [] hr1 (by omega) hm1 (by simp; omega) (by omega) k (by omega)
        simp only [Int.natCast_add, Int.cast_ofNat_Int] at K
        cases hq : mkids (mparse m) a r with
        | none =>
          rw [hq] at K
          exact K
        | some p =>
          obtain ⟨ts, r1⟩ := p
          rw [hq] at K
          obtain ⟨K, K'⟩ := K
          refine ⟨?_, K'⟩
          rw [K]
          simp [tv]
theorem l3Tree_eq (l : List S66) (k : Nat) (hk : 3606 ≤ k) : match tmof l with
    | none => ∃ b n ks, spec_l3Tree.f k l = some (b, n, ks, false)
    | some t => spec_l3Tree.f k l = some ((tv t).f0, (tv t).f1, (tv t).f2, true) := by
  by_cases h : l.length ≤ 600
  · have hS : spec_l3Tree.f k l = (spec_l3Read.f k l 0).bind fun bt164 => (if bt164.2.2.2 > 0 then (some (bt164.1, bt164.2.1, bt164.2.2.1, (bt164.2.2.2 == (l.length : Int)))) else (some (bt164.1, bt164.2.1, bt164.2.2.1, false))) := by
      unfold spec_l3Tree.f
      rw [if_neg (by omega)]
    rw [hS]
    clear hS
    have R := l3Read_eq l (by omega) 601 0 l rfl (by omega) (by omega) k (by omega)
    cases hq : mparse 601 l with
    | none =>
      rw [hq] at R
      obtain ⟨b, n, ks, R⟩ := R
      have hc : tmof l = none := by simp [tmof, h, hq]
      simp only [Int.cast_ofNat_Int] at R
      rw [R, hc]
      exact ⟨b, n, ks, by simp⟩
    | some q =>
      obtain ⟨t, r⟩ := q
      rw [hq] at R
      obtain ⟨R, R'⟩ := R
      have hl := mparse_len _ _ _ _ hq
      simp only [Int.cast_ofNat_Int] at R
      rw [R]
      simp only [Option.bind_some]
      rw [if_pos (by omega)]
      cases r with
      | nil =>
        have hc : tmof l = some t := by simp [tmof, h, hq]
        rw [hc]
        simp
      | cons x r =>
        have hc : tmof l = none := by simp [tmof, h, hq]
        rw [hc]
        refine ⟨(tv t).f0, (tv t).f1, (tv t).f2, ?_⟩
        simp at hl ⊢
        omega
  · have hc : tmof l = none := by simp [tmof, h]
    rw [hc]
    unfold spec_l3Tree.f
    rw [if_pos (by omega)]
    exact ⟨_, _, _, rfl⟩
theorem GoodTerm_eq (l : List S66) (k : Nat) (hk : 3606 ≤ k) : spec_GoodTerm.f k l = some (tmof l).isSome := by
  have h := l3Tree_eq l k hk
  unfold spec_GoodTerm.f
  cases hq : tmof l with
  | none => rw [hq] at h; obtain ⟨b, n, ks, h⟩ := h; rw [h]; rfl
  | some t => rw [hq] at h; simp only at h; rw [h]; rfl
end Go.Proofs.Ytgoiifpimpnlpaa.PAll

end

section
namespace Go.Proofs.Ytgoiifpimpnlpaa.PAll
open Go.RowKit Go.Proofs.YtgoiifpimpnlpaaW.PrintWords Go.Proofs.YtgoiifpimpnlpaaW.PrintLast Go.Proofs.YtgoiifpimpnlpaaW.PrintMore
set_option linter.unusedVariables false
set_option linter.unusedSimpArgs false
mutual
/-- As many parts as the kind asks, everywhere. -/
def Tm.wf : Tm → Prop
  | .mk k n ks => arI k = (ks.length : Int) ∧ wfs ks
def wfs : List Tm → Prop
  | [] => True
  | t :: ts => t.wf ∧ wfs ts
end
theorem wfs_get {ts : List Tm} (h : wfs ts) : ∀ t ∈ ts, t.wf := by
  induction ts with
  | nil => intro t ht; cases ht
  | cons a ts ih =>
    simp only [wfs] at h
    intro t ht
    rcases List.mem_cons.1 ht with rfl | ht
    · exact h.1
    · exact ih h.2 t ht
theorem mkids_wf {f : List S66 → Option (Tm × List S66)} (hf : ∀ l t r, f l = some (t, r) → t.wf) : ∀ m l ts r, mkids f m l = some (ts, r) → wfs ts ∧ ts.length = m := by
  intro m
  induction m with
  | zero => intro l ts r h; simp [mkids] at h; obtain ⟨rfl, rfl⟩ := h; simp [wfs]
  | succ m ih =>
    intro l ts r h
    simp only [mkids] at h
    cases h1 : f l with
    | none => rw [h1] at h; simp at h
    | some p =>
      obtain ⟨t, r1⟩ := p
      rw [h1] at h
      simp only at h
      cases h2 : mkids f m r1 with
      | none => rw [h2] at h; simp at h
      | some q =>
        obtain ⟨ts', r2⟩ := q
        rw [h2] at h
        simp at h
        obtain ⟨rfl, rfl⟩ := h
        have := hf _ _ _ h1
        have := ih _ _ _ h2
        simp only [wfs, List.length_cons]
        exact ⟨⟨by assumption, this.1⟩, by omega⟩
theorem cellB_arI {x : S66} (hb : cellB x = true) : 0 ≤ arI x.f0 := by
  unfold cellB at hb
  split at hb
  · simp [arI, *]
  · split at hb
    · simp [arI, *]
    · simp at hb; omega
theorem mparse_wf : ∀ (k : Nat) (l : List S66) (t : Tm) (r : List S66), mparse k l = some (t, r) → t.wf := by
  intro k
  induction k with
  | zero => intro l t r h; simp [mparse] at h
  | succ k ih =>
    intro l t r h
    cases l with
    | nil => simp [mparse] at h
    | cons x l =>
      simp only [mparse] at h
      split at h
      · rename_i hb
        have ha := cellB_arI hb
        cases h1 : mkids (mparse k) (arI x.f0).toNat l with
        | none => rw [h1] at h; simp at h
        | some p =>
          obtain ⟨ts, r1⟩ := p
          rw [h1] at h
          simp at h
          obtain ⟨rfl, _⟩ := h
          have := mkids_wf ih _ _ _ _ h1
          simp only [Tm.wf]
          exact ⟨by omega, this.1⟩
      · simp at h
theorem tmof_wf {l : List S66} {t : Tm} (h : tmof l = some t) : t.wf := by
  unfold tmof at h
  split at h
  · split at h
    · rename_i h1; injection h with h; subst h; exact mparse_wf _ _ _ _ h1
    · cases h
  · cases h
end Go.Proofs.Ytgoiifpimpnlpaa.PAll

end

section
namespace Go.Proofs.Ytgoiifpimpnlpaa.PAll
open Go.RowKit Go.Proofs.YtgoiifpimpnlpaaW.PrintWords Go.Proofs.YtgoiifpimpnlpaaW.PrintLast Go.Proofs.YtgoiifpimpnlpaaW.PrintMore
attribute [local go_sem] max2_int min2_int max_two min_two max_three min_three max_four min_four   -- for this text's walks alone
set_option linter.unusedVariables false
set_option linter.unusedSimpArgs false
def spec_l7Simple.f : Nat → Int → Int → List (S62) → Option (Bool)
  | 0, _, _, _ => none
  | k + 1, a0_0, a0_1, l0_2 => if a0_0 = 5 then (if 0 < (l0_2.length : Int) then ((spec_l7Simple.f k ((rd_T62 l0_2 0).f0) ((rd_T62 l0_2 0).f1) ((rd_T62 l0_2 0).f2)).bind fun t215 => (if t215 = true then (if 1 < (l0_2.length : Int) then ((spec_l7Simple.f k ((rd_T62 l0_2 1).f0) ((rd_T62 l0_2 1).f1) ((rd_T62 l0_2 1).f2)).bind fun t217 => (some t217)) else (none)) else (some false))) else (none)) else (if a0_0 = 1 then (some true) else (if a0_0 = 2 then (some true) else (some (a0_0 == 3))))
theorem spec_l7Simple.mono_l : ∀ k, (∀ y0 y1 y2, LeO (spec_l7Simple.f k y0 y1 y2) (spec_l7Simple.f (k + 1) y0 y1 y2))
  | 0 => fun _ _ _ r h => by simp [spec_l7Simple.f] at h
  | k + 1 => by
    have ih0 := spec_l7Simple.mono_l k
    · intro y0 y1 y2
      unfold spec_l7Simple.f
      repeat' first
      | (with_reducible exact ih0 _ _ _)
      | (with_reducible exact LeO.refl _)
      | (with_reducible exact LeO.none _)
      | (with_reducible refine LeO.ite ?_ ?_)
      | (with_reducible refine LeO.bind ?_ (fun _ => ?_))
      | exact ih0 _ _ _
      | exact LeO.none _
      | refine LeO.ite ?_ ?_
      | refine LeO.bind ?_ (fun _ => ?_)
theorem spec_l7Simple.mono : ∀ a0 a1 a2 k, LeO (spec_l7Simple.f k a0 a1 a2) (spec_l7Simple.f (k + 1) a0 a1 a2) := by
  intro a0 a1 a2 k
  have ih0 := spec_l7Simple.mono_l k
  exact ih0 a0 a1 a2
set_option maxHeartbeats 8000000 in
set_option maxRecDepth 100000 in
theorem spec_l7Simple.calls (k : Nat) : ∀ (a0_0 : Int) (a0_1 : Int) (A0_2 : Option Addr) (c0_2 : Nat) (l0_2 : List (S62)) (r : Bool) (w : World) (hr0_2 : Kd.C k62 w A0_2 l0_2.length l0_2) (hc0_2 : l0_2.length ≤ c0_2) (h : spec_l7Simple.f k a0_0 a0_1 l0_2 = some r),
    Calls Try.prog 94 #[.agg #[.int .i64 a0_0, .int .i64 a0_1, .slice A0_2 l0_2.length c0_2]] w fun e w' => e = .returned (.bool r) ∧ Below w.heap.size w w' := by
  induction k using Nat.strongRecOn with
  | _ k ih =>
  intro a0_0 a0_1 A0_2 c0_2 l0_2 r w hr0_2 hc0_2 h
  cases k with
  | zero => exact absurd h (by simp [spec_l7Simple.f])
  | succ k =>
  simp only [spec_l7Simple.f] at h
  have hu62 := Try.underlying62
  have HR0_2 := ab_ hr0_2
  have HC0_2 := ab_ hc0_2
  clear hr0_2 hc0_2
  have HB := ab_ (Below.refl w.heap.size w)
  have H : (if a0_0 = 5 then (if 0 < (l0_2.length : Int) then ((spec_l7Simple.f k ((rd_T62 l0_2 0).f0) ((rd_T62 l0_2 0).f1) ((rd_T62 l0_2 0).f2)).bind fun t215 => (if t215 = true then (if 1 < (l0_2.length : Int) then ((spec_l7Simple.f k ((rd_T62 l0_2 1).f0) ((rd_T62 l0_2 1).f1) ((rd_T62 l0_2 1).f2)).bind fun t217 => (some t217)) else (none)) else (some false))) else (none)) else (if a0_0 = 1 then (some true) else (if a0_0 = 2 then (some true) else (some (a0_0 == 3))))) = some r := h
  clear h
  by_cases c2 : a0_0 = 5
  · rw [if_pos c2] at H
    have c2b0 : (a0_0 == 5) = true := beq_iff_eq.mpr c2
    have c2b1 : (a0_0 != 5) = false := bne_eq_false_iff_eq.mpr c2
    clear c2
    by_cases c3 : 0 < (l0_2.length : Int)
    · rw [if_pos c3] at H
      have c3b0 : decide (0 < (l0_2.length : Int)) = true := aq_ c3
      have c3b1 : decide (0 < l0_2.length) = true := aq_ (by omega)
      clear c3
      replace H := Option.bind_eq_some_iff.mp H
      obtain ⟨t215, A40, H⟩ := H
      replace H : (if t215 = true then (if 1 < (l0_2.length : Int) then ((spec_l7Simple.f k ((rd_T62 l0_2 1).f0) ((rd_T62 l0_2 1).f1) ((rd_T62 l0_2 1).f2)).bind fun t217 => (some t217)) else (none)) else (some false)) = some r := H
      have A4 := ab_ A40
      clear A40
      by_cases c5 : t215 = true
      · subst c5
        have H1 : (if 1 < (l0_2.length : Int) then ((spec_l7Simple.f k ((rd_T62 l0_2 1).f0) ((rd_T62 l0_2 1).f1) ((rd_T62 l0_2 1).f2)).bind fun t217 => (some t217)) else (none)) = some r := by rw [if_pos rfl] at H; exact H
        clear H
        have H := H1
        clear H1
        by_cases c6 : 1 < (l0_2.length : Int)
        · rw [if_pos c6] at H
          have c6b0 : decide (1 < (l0_2.length : Int)) = true := aq_ c6
          have c6b1 : decide (1 < l0_2.length) = true := aq_ (by omega)
          clear c6
          replace H := Option.bind_eq_some_iff.mp H
          obtain ⟨t217, A70, H⟩ := H
          replace H : (some t217) = some r := H
          have A7 := ab_ A70
          clear A70
          obtain rfl := Option.some.inj H
          go_enter Try.func94, Try.ntmps94
          go_wp2_with (first | ((with_reducible refine gate_dst (N := 1) rfl ?_); refine box_event ?hg (N := 1) ?hd (cs := #[.int .i64 a0_0, .int .i64 a0_1, .slice A0_2 l0_2.length c0_2]) (t := 62) ?hr ?_; (case hd => rfl); (case hg => rfl); (case hr => first | (go_simp; done) | (go_simp; rfl)); intro gb213 hg w8 hbox hb; have n0_ := ab_ (ar_ (by repeat (first | (with_reducible first | exact HB.out | apply ai_ | apply ag_ | apply ah_) | exact HB.out)) hb); have n1_ := ab_ (hbox); have n2_ := ab_ ((by rw [hg]; exact (below_size (by repeat (first | (with_reducible first | exact HB.out | apply ai_ | apply ag_ | apply ah_) | exact HB.out))) : w.heap.size ≤ gb213)); have n3_ := ab_ ((by rw [hg]; exact (below_size (by repeat (first | (with_reducible first | exact HB.out | apply ai_ | apply ag_ | apply ah_) | exact HB.out))) : w.heap.size ≤ gb213)); clear HB; have HB := n0_; have BK213 := n1_; have GW213 := n2_; have GE213 := n3_; clear n0_ n1_ n2_ n3_; clear hb hbox hg; have hcz9_0 : w8.cell? ⟨gb213, 0, none⟩ = some (.int .i64 a0_0) := (am_ BK213.out 0).trans rfl; have hcz9_1 : w8.cell? ⟨gb213, 1, none⟩ = some (.int .i64 a0_1) := (am_ BK213.out 1).trans rfl; have hcz9_2 : w8.cell? ⟨gb213, 2, none⟩ = some (.slice A0_2 l0_2.length c0_2) := (am_ BK213.out 2).trans rfl; have hfz9_0 := al_ BK213.out 0; have hfz9_1 := al_ BK213.out 1; have hfz9_2 := al_ BK213.out 2; have p214 : 0 ≤ (0 : Int) := (by omega); have q214 : 0 < (l0_2.length : Int) := of_decide_eq_true (by first | (with_reducible assumption) | assumption); obtain ⟨ad214, A214_2, c214_2, e214, hx214_0, hx214_1, hx214_2, hl214_2, hi214_2⟩ := at_T62 HR0_2.out 0 p214 q214; cases e214; have qi214 : (0 < l0_2.length) = True := eq_true (by omega); (try rw [show ((0 : Int)).toNat = 0 from rfl] at hx214_0); (try rw [show 0 * 3 = 0 from rfl] at hx214_0); (try rw [Addr.add_zero'] at hx214_0); (try rw [show ((0 : Int)).toNat = 0 from rfl] at hx214_1); (try rw [show 0 * 3 = 0 from rfl] at hx214_1); (try rw [Addr.add_zero'] at hx214_1); (try rw [show ((0 : Int)).toNat = 0 from rfl] at hx214_2); (try rw [show 0 * 3 = 0 from rfl] at hx214_2); (try rw [Addr.add_zero'] at hx214_2); replace hx214_0 := (HB.out.cell (aa_ w _ hx214_0)).trans hx214_0; replace hx214_1 := (HB.out.cell (aa_ w _ hx214_1)).trans hx214_1; replace hx214_2 := (HB.out.cell (aa_ w _ hx214_2)).trans hx214_2; have HR214_2 := ab_ hi214_2; have HC214_2 := ab_ hl214_2; clear hi214_2 hl214_2; replace p214 := eq_true p214; replace q214 := eq_true q214) | ((with_reducible refine gate_callee (f := 94) rfl ?_); refine goesL_ (some 10) rfl rfl Try.func94 (by kernel_rfl) rfl #[.agg #[.int .i64 ((rd_T62 l0_2 0).f0), .int .i64 ((rd_T62 l0_2 0).f1), .slice A214_2 ((rd_T62 l0_2 0).f2).length c214_2]] rfl (by (try simp only [List.map_toArray, List.map_cons, List.map_nil]); first | done | rfl | (simp only [List.length_drop, List.length_take]; rfl)) ?_; (with_reducible refine (ih k (by omega) ((rd_T62 l0_2 0).f0) ((rd_T62 l0_2 0).f1) _ _ ((rd_T62 l0_2 0).f2) true _ ?side1 ?side2 A4.out).mono ?_); (case side1 => repeat (first | exact (Kd.C_below HR214_2.out HB.out) | (with_reducible refine Kd.C_alloc ?_ _) | (with_reducible refine Kd.C_drewN ?_ _) | (with_reducible refine Kd.C_drew ?_))); (case side2 => exact HC214_2.out); rintro e w10 ⟨rfl, hb⟩; refine ⟨_, rfl, ?_⟩; have n0_ := ab_ (blk_below (g := gb213) (o := .cells #[.int .i64 a0_0, .int .i64 a0_1, .slice (some ad214) l0_2.length c0_2] 62 (0, 0)) (by (with_reducible repeat (first | refine ac_ ?_ _ | refine ae_ ?_ | refine ad_ ?_ _)); exact BK213.out) hb); have n1_ := ab_ (ar_ (by repeat (first | (with_reducible first | exact HB.out | apply ai_ | apply ag_ | apply ah_ | refine af_ ?_ GE213.out) | exact HB.out)) hb); clear BK213; clear HB; have BK213 := n0_; have HB := n1_; clear n0_ n1_; (try clear hb); (try clear hb2); (try clear hk); (try clear hi); have hcz11_0 : w10.cell? ⟨gb213, 0, none⟩ = some (.int .i64 a0_0) := (am_ BK213.out 0).trans rfl; have hcz11_1 : w10.cell? ⟨gb213, 1, none⟩ = some (.int .i64 a0_1) := (am_ BK213.out 1).trans rfl; have hcz11_2 : w10.cell? ⟨gb213, 2, none⟩ = some (.slice (some ad214) l0_2.length c0_2) := (am_ BK213.out 2).trans rfl; have hfz11_0 := al_ BK213.out 0; have hfz11_1 := al_ BK213.out 1; have hfz11_2 := al_ BK213.out 2; have p216 : 0 ≤ (1 : Int) := (by omega); have q216 : 1 < (l0_2.length : Int) := of_decide_eq_true (by first | (with_reducible assumption) | assumption); obtain ⟨ad216, A216_2, c216_2, e216, hx216_0, hx216_1, hx216_2, hl216_2, hi216_2⟩ := at_T62 HR0_2.out 1 p216 q216; obtain rfl : ad214 = ad216 := (by injection e216); (try simp only [show (1 : Int).toNat = 1 from rfl, Nat.reduceMul, Nat.reduceEqDiff, Go.Addr.add, ↓reduceIte] at hx216_0); (try simp only [show (1 : Int).toNat = 1 from rfl, Nat.reduceMul, Nat.reduceEqDiff, Go.Addr.add, ↓reduceIte] at hx216_1); (try simp only [show (1 : Int).toNat = 1 from rfl, Nat.reduceMul, Nat.reduceEqDiff, Go.Addr.add, ↓reduceIte] at hx216_2); have qi216 : (1 < l0_2.length) = True := eq_true (by omega); (try rw [show ((1 : Int)).toNat = 1 from rfl] at hx216_0); (try rw [show 1 * 3 = 3 from rfl] at hx216_0); (try rw [show ((1 : Int)).toNat = 1 from rfl] at hx216_1); (try rw [show 1 * 3 = 3 from rfl] at hx216_1); (try rw [show ((1 : Int)).toNat = 1 from rfl] at hx216_2); (try rw [show 1 * 3 = 3 from rfl] at hx216_2); replace hx216_0 := (HB.out.cell (aa_ w _ hx216_0)).trans hx216_0; replace hx216_1 := (HB.out.cell (aa_ w _ hx216_1)).trans hx216_1; replace hx216_2 := (HB.out.cell (aa_ w _ hx216_2)).trans hx216_2; have HR216_2 := ab_ hi216_2; have HC216_2 := ab_ hl216_2; clear hi216_2 hl216_2; replace p216 := eq_true p216; replace q216 := eq_true q216) | (go_at_call 94; (with_reducible refine (ih k (by omega) ((rd_T62 l0_2 1).f0) ((rd_T62 l0_2 1).f1) _ _ ((rd_T62 l0_2 1).f2) t217 _ ?side1 ?side2 A7.out).mono ?_); (case side1 => repeat (first | exact (Kd.C_below HR216_2.out HB.out) | (with_reducible refine Kd.C_alloc ?_ _) | (with_reducible refine Kd.C_drewN ?_ _) | (with_reducible refine Kd.C_drew ?_))); (case side2 => exact HC216_2.out); rintro e w12 ⟨rfl, hb⟩; have n0_ := ab_ (blk_below (g := gb213) (o := .cells #[.int .i64 a0_0, .int .i64 a0_1, .slice (some ad214) l0_2.length c0_2] 62 (0, 0)) (by (with_reducible repeat (first | refine ac_ ?_ _ | refine ae_ ?_ | refine ad_ ?_ _)); exact BK213.out) hb); have n1_ := ab_ (ar_ (by repeat (first | (with_reducible first | exact HB.out | apply ai_ | apply ag_ | apply ah_ | refine af_ ?_ GE213.out) | exact HB.out)) hb); clear BK213; clear HB; have BK213 := n0_; have HB := n1_; clear n0_ n1_; (try clear hb); (try clear hb2); (try clear hk); (try clear hi)))
          go_ret
          exact ⟨by first | rfl | (simp [errW_none, errW_some] <;> rfl) | (simp [*, errW_none, errW_some] <;> rfl), by repeat (first | (with_reducible first | exact HB.out | apply ai_ | apply ag_ | apply ah_ | refine af_ ?_ GE213.out) | exact HB.out)⟩
        · rw [if_neg c6] at H
          exact absurd H (by simp)
      · replace c5 := Bool.eq_false_iff.mpr c5
        subst c5
        have H1 : (some false) = some r := by rw [if_neg (show ¬ (false = true) by decide)] at H; exact H
        clear H
        have H := H1
        clear H1
        obtain rfl := Option.some.inj H
        go_enter Try.func94, Try.ntmps94
        go_wp2_with (first | ((with_reducible refine gate_dst (N := 1) rfl ?_); refine box_event ?hg (N := 1) ?hd (cs := #[.int .i64 a0_0, .int .i64 a0_1, .slice A0_2 l0_2.length c0_2]) (t := 62) ?hr ?_; (case hd => rfl); (case hg => rfl); (case hr => first | (go_simp; done) | (go_simp; rfl)); intro gb213 hg w13 hbox hb; have n0_ := ab_ (ar_ (by repeat (first | (with_reducible first | exact HB.out | apply ai_ | apply ag_ | apply ah_) | exact HB.out)) hb); have n1_ := ab_ (hbox); have n2_ := ab_ ((by rw [hg]; exact (below_size (by repeat (first | (with_reducible first | exact HB.out | apply ai_ | apply ag_ | apply ah_) | exact HB.out))) : w.heap.size ≤ gb213)); have n3_ := ab_ ((by rw [hg]; exact (below_size (by repeat (first | (with_reducible first | exact HB.out | apply ai_ | apply ag_ | apply ah_) | exact HB.out))) : w.heap.size ≤ gb213)); clear HB; have HB := n0_; have BK213 := n1_; have GW213 := n2_; have GE213 := n3_; clear n0_ n1_ n2_ n3_; clear hb hbox hg; have hcz14_0 : w13.cell? ⟨gb213, 0, none⟩ = some (.int .i64 a0_0) := (am_ BK213.out 0).trans rfl; have hcz14_1 : w13.cell? ⟨gb213, 1, none⟩ = some (.int .i64 a0_1) := (am_ BK213.out 1).trans rfl; have hcz14_2 : w13.cell? ⟨gb213, 2, none⟩ = some (.slice A0_2 l0_2.length c0_2) := (am_ BK213.out 2).trans rfl; have hfz14_0 := al_ BK213.out 0; have hfz14_1 := al_ BK213.out 1; have hfz14_2 := al_ BK213.out 2; have p214 : 0 ≤ (0 : Int) := (by omega); have q214 : 0 < (l0_2.length : Int) := of_decide_eq_true (by first | (with_reducible assumption) | assumption); obtain ⟨ad214, A214_2, c214_2, e214, hx214_0, hx214_1, hx214_2, hl214_2, hi214_2⟩ := at_T62 HR0_2.out 0 p214 q214; cases e214; have qi214 : (0 < l0_2.length) = True := eq_true (by omega); (try rw [show ((0 : Int)).toNat = 0 from rfl] at hx214_0); (try rw [show 0 * 3 = 0 from rfl] at hx214_0); (try rw [Addr.add_zero'] at hx214_0); (try rw [show ((0 : Int)).toNat = 0 from rfl] at hx214_1); (try rw [show 0 * 3 = 0 from rfl] at hx214_1); (try rw [Addr.add_zero'] at hx214_1); (try rw [show ((0 : Int)).toNat = 0 from rfl] at hx214_2); (try rw [show 0 * 3 = 0 from rfl] at hx214_2); (try rw [Addr.add_zero'] at hx214_2); replace hx214_0 := (HB.out.cell (aa_ w _ hx214_0)).trans hx214_0; replace hx214_1 := (HB.out.cell (aa_ w _ hx214_1)).trans hx214_1; replace hx214_2 := (HB.out.cell (aa_ w _ hx214_2)).trans hx214_2; have HR214_2 := ab_ hi214_2; have HC214_2 := ab_ hl214_2; clear hi214_2 hl214_2; replace p214 := eq_true p214; replace q214 := eq_true q214) | ((with_reducible refine gate_callee (f := 94) rfl ?_); refine goesL_ (some 10) rfl rfl Try.func94 (by kernel_rfl) rfl #[.agg #[.int .i64 ((rd_T62 l0_2 0).f0), .int .i64 ((rd_T62 l0_2 0).f1), .slice A214_2 ((rd_T62 l0_2 0).f2).length c214_2]] rfl (by (try simp only [List.map_toArray, List.map_cons, List.map_nil]); first | done | rfl | (simp only [List.length_drop, List.length_take]; rfl)) ?_; (with_reducible refine (ih k (by omega) ((rd_T62 l0_2 0).f0) ((rd_T62 l0_2 0).f1) _ _ ((rd_T62 l0_2 0).f2) false _ ?side1 ?side2 A4.out).mono ?_); (case side1 => repeat (first | exact (Kd.C_below HR214_2.out HB.out) | (with_reducible refine Kd.C_alloc ?_ _) | (with_reducible refine Kd.C_drewN ?_ _) | (with_reducible refine Kd.C_drew ?_))); (case side2 => exact HC214_2.out); rintro e w15 ⟨rfl, hb⟩; refine ⟨_, rfl, ?_⟩; have n0_ := ab_ (blk_below (g := gb213) (o := .cells #[.int .i64 a0_0, .int .i64 a0_1, .slice (some ad214) l0_2.length c0_2] 62 (0, 0)) (by (with_reducible repeat (first | refine ac_ ?_ _ | refine ae_ ?_ | refine ad_ ?_ _)); exact BK213.out) hb); have n1_ := ab_ (ar_ (by repeat (first | (with_reducible first | exact HB.out | apply ai_ | apply ag_ | apply ah_ | refine af_ ?_ GE213.out) | exact HB.out)) hb); clear BK213; clear HB; have BK213 := n0_; have HB := n1_; clear n0_ n1_; (try clear hb); (try clear hb2); (try clear hk); (try clear hi)))
        go_ret
        exact ⟨by first | rfl | (simp [errW_none, errW_some] <;> rfl) | (simp [*, errW_none, errW_some] <;> rfl), by repeat (first | (with_reducible first | exact HB.out | apply ai_ | apply ag_ | apply ah_ | refine af_ ?_ GE213.out) | exact HB.out)⟩
    · rw [if_neg c3] at H
      exact absurd H (by simp)
  · rw [if_neg c2] at H
    have c2b0 : (a0_0 == 5) = false := beq_eq_false_iff_ne.mpr c2
    have c2b1 : (a0_0 != 5) = true := bne_iff_ne.mpr c2
    by_cases c16 : a0_0 = 1
    · rw [if_pos c16] at H
      have c16b0 : (a0_0 == 1) = true := beq_iff_eq.mpr c16
      have c16b1 : (a0_0 != 1) = false := bne_eq_false_iff_eq.mpr c16
      clear c16
      obtain rfl := Option.some.inj H
      go_enter Try.func94, Try.ntmps94
      go_wp2_with (first | ((with_reducible refine gate_dst (N := 1) rfl ?_); refine box_event ?hg (N := 1) ?hd (cs := #[.int .i64 a0_0, .int .i64 a0_1, .slice A0_2 l0_2.length c0_2]) (t := 62) ?hr ?_; (case hd => rfl); (case hg => rfl); (case hr => first | (go_simp; done) | (go_simp; rfl)); intro gb213 hg w17 hbox hb; have n0_ := ab_ (ar_ (by repeat (first | (with_reducible first | exact HB.out | apply ai_ | apply ag_ | apply ah_) | exact HB.out)) hb); have n1_ := ab_ (hbox); have n2_ := ab_ ((by rw [hg]; exact (below_size (by repeat (first | (with_reducible first | exact HB.out | apply ai_ | apply ag_ | apply ah_) | exact HB.out))) : w.heap.size ≤ gb213)); have n3_ := ab_ ((by rw [hg]; exact (below_size (by repeat (first | (with_reducible first | exact HB.out | apply ai_ | apply ag_ | apply ah_) | exact HB.out))) : w.heap.size ≤ gb213)); clear HB; have HB := n0_; have BK213 := n1_; have GW213 := n2_; have GE213 := n3_; clear n0_ n1_ n2_ n3_; clear hb hbox hg; have hcz18_0 : w17.cell? ⟨gb213, 0, none⟩ = some (.int .i64 a0_0) := (am_ BK213.out 0).trans rfl; have hcz18_1 : w17.cell? ⟨gb213, 1, none⟩ = some (.int .i64 a0_1) := (am_ BK213.out 1).trans rfl; have hcz18_2 : w17.cell? ⟨gb213, 2, none⟩ = some (.slice A0_2 l0_2.length c0_2) := (am_ BK213.out 2).trans rfl; have hfz18_0 := al_ BK213.out 0; have hfz18_1 := al_ BK213.out 1; have hfz18_2 := al_ BK213.out 2))
      go_ret
      exact ⟨by first | rfl | (simp [errW_none, errW_some] <;> rfl) | (simp [*, errW_none, errW_some] <;> rfl), by repeat (first | (with_reducible first | exact HB.out | apply ai_ | apply ag_ | apply ah_ | refine af_ ?_ GE213.out) | exact HB.out)⟩
    · rw [if_neg c16] at H
      have c16b0 : (a0_0 == 1) = false := beq_eq_false_iff_ne.mpr c16
      have c16b1 : (a0_0 != 1) = true := bne_iff_ne.mpr c16
      by_cases c19 : a0_0 = 2
      · rw [if_pos c19] at H
        have c19b0 : (a0_0 == 2) = true := beq_iff_eq.mpr c19
        have c19b1 : (a0_0 != 2) = false := bne_eq_false_iff_eq.mpr c19
        clear c19
        obtain rfl := Option.some.inj H
        go_enter Try.func94, Try.ntmps94
        go_wp2_with (first | ((with_reducible refine gate_dst (N := 1) rfl ?_); refine box_event ?hg (N := 1) ?hd (cs := #[.int .i64 a0_0, .int .i64 a0_1, .slice A0_2 l0_2.length c0_2]) (t := 62) ?hr ?_; (case hd => rfl); (case hg => rfl); (case hr => first | (go_simp; done) | (go_simp; rfl)); intro gb213 hg w20 hbox hb; have n0_ := ab_ (ar_ (by repeat (first | (with_reducible first | exact HB.out | apply ai_ | apply ag_ | apply ah_) | exact HB.out)) hb); have n1_ := ab_ (hbox); have n2_ := ab_ ((by rw [hg]; exact (below_size (by repeat (first | (with_reducible first | exact HB.out | apply ai_ | apply ag_ | apply ah_) | exact HB.out))) : w.heap.size ≤ gb213)); have n3_ := ab_ ((by rw [hg]; exact (below_size (by repeat (first | (with_reducible first | exact HB.out | apply ai_ | apply ag_ | apply ah_) | exact HB.out))) : w.heap.size ≤ gb213)); clear HB; have HB := n0_; have BK213 := n1_; have GW213 := n2_; have GE213 := n3_; clear n0_ n1_ n2_ n3_; clear hb hbox hg; have hcz21_0 : w20.cell? ⟨gb213, 0, none⟩ = some (.int .i64 a0_0) := (am_ BK213.out 0).trans rfl; have hcz21_1 : w20.cell? ⟨gb213, 1, none⟩ = some (.int .i64 a0_1) := (am_ BK213.out 1).trans rfl; have hcz21_2 : w20.cell? ⟨gb213, 2, none⟩ = some (.slice A0_2 l0_2.length c0_2) := (am_ BK213.out 2).trans rfl; have hfz21_0 := al_ BK213.out 0; have hfz21_1 := al_ BK213.out 1; have hfz21_2 := al_ BK213.out 2))
        go_ret
        exact ⟨by first | rfl | (simp [errW_none, errW_some] <;> rfl) | (simp [*, errW_none, errW_some] <;> rfl), by repeat (first | (with_reducible first | exact HB.out | apply ai_ | apply ag_ | apply ah_ | refine af_ ?_ GE213.out) | exact HB.out)⟩
      · rw [if_neg c19] at H
        have c19b0 : (a0_0 == 2) = false := beq_eq_false_iff_ne.mpr c19
        have c19b1 : (a0_0 != 2) = true := bne_iff_ne.mpr c19
        obtain rfl := Option.some.inj H
        go_enter Try.func94, Try.ntmps94
        go_wp2_with (first | ((with_reducible refine gate_dst (N := 1) rfl ?_); refine box_event ?hg (N := 1) ?hd (cs := #[.int .i64 a0_0, .int .i64 a0_1, .slice A0_2 l0_2.length c0_2]) (t := 62) ?hr ?_; (case hd => rfl); (case hg => rfl); (case hr => first | (go_simp; done) | (go_simp; rfl)); intro gb213 hg w22 hbox hb; have n0_ := ab_ (ar_ (by repeat (first | (with_reducible first | exact HB.out | apply ai_ | apply ag_ | apply ah_) | exact HB.out)) hb); have n1_ := ab_ (hbox); have n2_ := ab_ ((by rw [hg]; exact (below_size (by repeat (first | (with_reducible first | exact HB.out | apply ai_ | apply ag_ | apply ah_) | exact HB.out))) : w.heap.size ≤ gb213)); have n3_ := ab_ ((by rw [hg]; exact (below_size (by repeat (first | (with_reducible first | exact HB.out | apply ai_ | apply ag_ | apply ah_) | exact HB.out))) : w.heap.size ≤ gb213)); clear HB; have HB := n0_; have BK213 := n1_; have GW213 := n2_; have GE213 := n3_; clear n0_ n1_ n2_ n3_; clear hb hbox hg; have hcz23_0 : w22.cell? ⟨gb213, 0, none⟩ = some (.int .i64 a0_0) := (am_ BK213.out 0).trans rfl; have hcz23_1 : w22.cell? ⟨gb213, 1, none⟩ = some (.int .i64 a0_1) := (am_ BK213.out 1).trans rfl; have hcz23_2 : w22.cell? ⟨gb213, 2, none⟩ = some (.slice A0_2 l0_2.length c0_2) := (am_ BK213.out 2).trans rfl; have hfz23_0 := al_ BK213.out 0; have hfz23_1 := al_ BK213.out 1; have hfz23_2 := al_ BK213.out 2))
        go_ret
        exact ⟨by first | rfl | (simp [errW_none, errW_some] <;> rfl) | (simp [*, errW_none, errW_some] <;> rfl), by repeat (first | (with_reducible first | exact HB.out | apply ai_ | apply ag_ | apply ah_ | refine af_ ?_ GE213.out) | exact HB.out)⟩
end Go.Proofs.Ytgoiifpimpnlpaa.PAll

end

section
namespace Go.Proofs.Ytgoiifpimpnlpaa.PAll
open Go.RowKit Go.Proofs.YtgoiifpimpnlpaaW.PrintWords Go.Proofs.YtgoiifpimpnlpaaW.PrintLast Go.Proofs.YtgoiifpimpnlpaaW.PrintMore
attribute [local go_sem] max2_int min2_int max_two min_two max_three min_three max_four min_four   -- for this text's walks alone
set_option linter.unusedVariables false
set_option linter.unusedSimpArgs false
mutual
def spec_l7Is.j0 : Nat → Bool → Int → Int → List (S62) → Option (Bool)
  | 0, _, _, _, _ => none
  | k + 1, x3, x219000, x219001, x219002 => spec_l7Is.l0 k x3 x219002 (x219002.length : Int) 0
def spec_l7Is.l0 : Nat → Bool → List (S62) → Int → Int → Option (Bool)
  | 0, _, _, _, _ => none
  | k + 1, x3, x39, x40, x41 => if x41 < x40 then (if 0 ≤ x41 then (if x41 < (x39.length : Int) then (if x3 = true then ((spec_l7Is.f k ((rd_T62 x39 x41).f0) ((rd_T62 x39 x41).f1) ((rd_T62 x39 x41).f2)).bind fun t229 => (spec_l7Is.l0 k t229 x39 x40 (wrap64 (x41 + 1)))) else (spec_l7Is.l0 k false x39 x40 (wrap64 (x41 + 1)))) else (none)) else (none)) else (some x3)
def spec_l7Is.f : Nat → Int → Int → List (S62) → Option (Bool)
  | 0, _, _, _ => none
  | k + 1, a0_0, a0_1, l0_2 => if a0_0 = 4 then (if 1 < (l0_2.length : Int) then ((spec_l7Simple.f k ((rd_T62 l0_2 1).f0) ((rd_T62 l0_2 1).f1) ((rd_T62 l0_2 1).f2)).bind fun t220 => (spec_l7Is.j0 k t220 a0_0 a0_1 l0_2)) else (none)) else (if a0_0 = 5 then (if 0 < (l0_2.length : Int) then ((spec_l7Simple.f k ((rd_T62 l0_2 0).f0) ((rd_T62 l0_2 0).f1) ((rd_T62 l0_2 0).f2)).bind fun t222 => (if t222 = true then (if 1 < (l0_2.length : Int) then ((spec_l7Simple.f k ((rd_T62 l0_2 1).f0) ((rd_T62 l0_2 1).f1) ((rd_T62 l0_2 1).f2)).bind fun t224 => (spec_l7Is.j0 k t224 a0_0 a0_1 l0_2)) else (none)) else (spec_l7Is.j0 k false a0_0 a0_1 l0_2))) else (none)) else (if a0_0 = 6 then (if 0 < (l0_2.length : Int) then ((spec_l7Simple.f k ((rd_T62 l0_2 0).f0) ((rd_T62 l0_2 0).f1) ((rd_T62 l0_2 0).f2)).bind fun t226 => (spec_l7Is.j0 k t226 a0_0 a0_1 l0_2)) else (none)) else (if a0_0 = 7 then (spec_l7Is.j0 k false a0_0 a0_1 l0_2) else (spec_l7Is.j0 k true a0_0 a0_1 l0_2))))
end
theorem spec_l7Is.mono_l : ∀ k, (∀ y0 y1 y2, LeO (spec_l7Is.f k y0 y1 y2) (spec_l7Is.f (k + 1) y0 y1 y2)) ∧ (∀ y0 y1 y2 y3, LeO (spec_l7Is.j0 k y0 y1 y2 y3) (spec_l7Is.j0 (k + 1) y0 y1 y2 y3)) ∧ (∀ y0 y1 y2 y3, LeO (spec_l7Is.l0 k y0 y1 y2 y3) (spec_l7Is.l0 (k + 1) y0 y1 y2 y3))
  | 0 => ⟨fun _ _ _ r h => by simp [spec_l7Is.f] at h, fun _ _ _ _ r h => by simp [spec_l7Is.j0] at h, fun _ _ _ _ r h => by simp [spec_l7Is.l0] at h⟩
  | k + 1 => by
    obtain ⟨ih0, ih1, ih2⟩ := spec_l7Is.mono_l k
    refine ⟨?_, ?_, ?_⟩
    · intro y0 y1 y2
      unfold spec_l7Is.f
      repeat' first
      | (with_reducible exact ih0 _ _ _)
      | (with_reducible exact ih1 _ _ _ _)
      | (with_reducible exact ih2 _ _ _ _)
      | (with_reducible exact spec_l7Simple.mono _ _ _ _)
      | (with_reducible exact LeO.refl _)
      | (with_reducible exact LeO.none _)
      | (with_reducible refine LeO.ite ?_ ?_)
      | (with_reducible refine LeO.bind ?_ (fun _ => ?_))
      | exact ih0 _ _ _
      | exact ih1 _ _ _ _
      | exact ih2 _ _ _ _
      | exact spec_l7Simple.mono _ _ _ _
      | exact LeO.none _
      | refine LeO.ite ?_ ?_
      | refine LeO.bind ?_ (fun _ => ?_)
    · intro y0 y1 y2 y3
      unfold spec_l7Is.j0
      repeat' first
      | (with_reducible exact ih0 _ _ _)
      | (with_reducible exact ih1 _ _ _ _)
      | (with_reducible exact ih2 _ _ _ _)
      | (with_reducible exact spec_l7Simple.mono _ _ _ _)
      | (with_reducible exact LeO.refl _)
      | (with_reducible exact LeO.none _)
      | (with_reducible refine LeO.ite ?_ ?_)
      | (with_reducible refine LeO.bind ?_ (fun _ => ?_))
      | exact ih0 _ _ _
      | exact ih1 _ _ _ _
      | exact ih2 _ _ _ _
      | exact spec_l7Simple.mono _ _ _ _
      | exact LeO.none _
      | refine LeO.ite ?_ ?_
      | refine LeO.bind ?_ (fun _ => ?_)
    · intro y0 y1 y2 y3
      unfold spec_l7Is.l0
      repeat' first
      | (with_reducible exact ih0 _ _ _)
      | (with_reducible exact ih1 _ _ _ _)
      | (with_reducible exact ih2 _ _ _ _)
      | (with_reducible exact spec_l7Simple.mono _ _ _ _)
      | (with_reducible exact LeO.refl _)
      | (with_reducible exact LeO.none _)
      | (with_reducible refine LeO.ite ?_ ?_)
      | (with_reducible refine LeO.bind ?_ (fun _ => ?_))
      | exact ih0 _ _ _
      | exact ih1 _ _ _ _
      | exact ih2 _ _ _ _
      | exact spec_l7Simple.mono _ _ _ _
      | exact LeO.none _
      | refine LeO.ite ?_ ?_
      | refine LeO.bind ?_ (fun _ => ?_)
theorem spec_l7Is.mono : ∀ a0 a1 a2 k, LeO (spec_l7Is.f k a0 a1 a2) (spec_l7Is.f (k + 1) a0 a1 a2) := by
  intro a0 a1 a2 k
  obtain ⟨ih0, ih1, ih2⟩ := spec_l7Is.mono_l k
  exact ih0 a0 a1 a2
set_option maxHeartbeats 8000000 in
set_option maxRecDepth 100000 in
theorem spec_l7Is.calls (k : Nat) : ∀ (a0_0 : Int) (a0_1 : Int) (A0_2 : Option Addr) (c0_2 : Nat) (l0_2 : List (S62)) (r : Bool) (w : World) (hr0_2 : Kd.C k62 w A0_2 l0_2.length l0_2) (hc0_2 : l0_2.length ≤ c0_2) (h : spec_l7Is.f k a0_0 a0_1 l0_2 = some r),
    Calls Try.prog 55 #[.agg #[.int .i64 a0_0, .int .i64 a0_1, .slice A0_2 l0_2.length c0_2]] w fun e w' => e = .returned (.bool r) ∧ Below w.heap.size w w' := by
  induction k using Nat.strongRecOn with
  | _ k ih =>
  intro a0_0 a0_1 A0_2 c0_2 l0_2 r w hr0_2 hc0_2 h
  cases k with
  | zero => exact absurd h (by simp [spec_l7Is.f])
  | succ k =>
  simp only [spec_l7Is.f] at h
  have hu62 := Try.underlying62
  have HR0_2 := ab_ hr0_2
  have HC0_2 := ab_ hc0_2
  clear hr0_2 hc0_2
  have HB := ab_ (Below.refl w.heap.size w)
  have H : (if a0_0 = 4 then (if 1 < (l0_2.length : Int) then ((spec_l7Simple.f k ((rd_T62 l0_2 1).f0) ((rd_T62 l0_2 1).f1) ((rd_T62 l0_2 1).f2)).bind fun t220 => (spec_l7Is.j0 k t220 a0_0 a0_1 l0_2)) else (none)) else (if a0_0 = 5 then (if 0 < (l0_2.length : Int) then ((spec_l7Simple.f k ((rd_T62 l0_2 0).f0) ((rd_T62 l0_2 0).f1) ((rd_T62 l0_2 0).f2)).bind fun t222 => (if t222 = true then (if 1 < (l0_2.length : Int) then ((spec_l7Simple.f k ((rd_T62 l0_2 1).f0) ((rd_T62 l0_2 1).f1) ((rd_T62 l0_2 1).f2)).bind fun t224 => (spec_l7Is.j0 k t224 a0_0 a0_1 l0_2)) else (none)) else (spec_l7Is.j0 k false a0_0 a0_1 l0_2))) else (none)) else (if a0_0 = 6 then (if 0 < (l0_2.length : Int) then ((spec_l7Simple.f k ((rd_T62 l0_2 0).f0) ((rd_T62 l0_2 0).f1) ((rd_T62 l0_2 0).f2)).bind fun t226 => (spec_l7Is.j0 k t226 a0_0 a0_1 l0_2)) else (none)) else (if a0_0 = 7 then (spec_l7Is.j0 k false a0_0 a0_1 l0_2) else (spec_l7Is.j0 k true a0_0 a0_1 l0_2))))) = some r := h
  clear h
  have HC2 := ab_ H
  clear H
  go_enter Try.func55, Try.ntmps55
  go_upto_block 0 with (first | ((with_reducible refine gate_dst (N := 1) rfl ?_); refine box_event ?hg (N := 1) ?hd (cs := #[.int .i64 a0_0, .int .i64 a0_1, .slice A0_2 l0_2.length c0_2]) (t := 62) ?hr ?_; (case hd => rfl); (case hg => rfl); (case hr => first | (go_simp; done) | (go_simp; rfl)); intro gb218 hg w3 hbox hb; have n0_ := ab_ (ar_ (by repeat (first | (with_reducible first | exact HB.out | apply ai_ | apply ag_ | apply ah_) | exact HB.out)) hb); have n1_ := ab_ (hbox); have n2_ := ab_ ((by rw [hg]; exact (below_size (by repeat (first | (with_reducible first | exact HB.out | apply ai_ | apply ag_ | apply ah_) | exact HB.out))) : w.heap.size ≤ gb218)); have n3_ := ab_ ((by rw [hg]; exact (below_size (by repeat (first | (with_reducible first | exact HB.out | apply ai_ | apply ag_ | apply ah_) | exact HB.out))) : w.heap.size ≤ gb218)); clear HB; have HB := n0_; have BK218 := n1_; have GW218 := n2_; have GE218 := n3_; clear n0_ n1_ n2_ n3_; clear hb hbox hg; have hcz4_0 : w3.cell? ⟨gb218, 0, none⟩ = some (.int .i64 a0_0) := (am_ BK218.out 0).trans rfl; have hcz4_1 : w3.cell? ⟨gb218, 1, none⟩ = some (.int .i64 a0_1) := (am_ BK218.out 1).trans rfl; have hcz4_2 : w3.cell? ⟨gb218, 2, none⟩ = some (.slice A0_2 l0_2.length c0_2) := (am_ BK218.out 2).trans rfl; have hfz4_0 := al_ BK218.out 0; have hfz4_1 := al_ BK218.out 1; have hfz4_2 := al_ BK218.out 2))
  (try simp only [Act.put, List.setIfInBounds_toArray, List.set_cons_zero, List.set_cons_succ])
  go_cut [3] (fun v3 wc => ∃ (kq : Nat) (x3_1 : Bool), v3 = .bool x3_1 ∧ Aside0 (spec_l7Is.j0 kq x3_1 a0_0 a0_1 l0_2 = some r) ∧ Aside0 (kq ≤ k) ∧ Aside0 (wc.heap[gb218]? = some (.cells #[.int .i64 a0_0, .int .i64 a0_1, (.slice A0_2 l0_2.length c0_2)] 62 (0, 0))) ∧ Aside0 (Below w.heap.size w wc))
  case first =>
    have H := HC2.out
    clear HC2
    by_cases c5 : a0_0 = 4
    · rw [if_pos c5] at H
      have c5b0 : (a0_0 == 4) = true := beq_iff_eq.mpr c5
      have c5b1 : (a0_0 != 4) = false := bne_eq_false_iff_eq.mpr c5
      clear c5
      (first | rw [c5b0] | (simp only [i64_w, i32_w]; rw [c5b0]) | skip)
      by_cases c6 : 1 < (l0_2.length : Int)
      · rw [if_pos c6] at H
        have c6b0 : decide (1 < (l0_2.length : Int)) = true := aq_ c6
        have c6b1 : decide (1 < l0_2.length) = true := aq_ (by omega)
        clear c6
        replace H := Option.bind_eq_some_iff.mp H
        obtain ⟨t220, A70, H⟩ := H
        replace H : (spec_l7Is.j0 k t220 a0_0 a0_1 l0_2) = some r := H
        have A7 := ab_ A70
        clear A70
        have H' := ab_ H
        clear H
        have hcz8_0 : w3.cell? ⟨gb218, 0, none⟩ = some (.int .i64 a0_0) := (am_ BK218.out 0).trans rfl
        have hcz8_1 : w3.cell? ⟨gb218, 1, none⟩ = some (.int .i64 a0_1) := (am_ BK218.out 1).trans rfl
        have hcz8_2 : w3.cell? ⟨gb218, 2, none⟩ = some (.slice A0_2 l0_2.length c0_2) := (am_ BK218.out 2).trans rfl
        have hfz8_0 := al_ BK218.out 0
        have hfz8_1 := al_ BK218.out 1
        have hfz8_2 := al_ BK218.out 2
        have p219 : 0 ≤ (1 : Int) := (by omega)
        have q219 : 1 < (l0_2.length : Int) := of_decide_eq_true (by first | (with_reducible assumption) | assumption)
        obtain ⟨ad219, A219_2, c219_2, e219, hx219_0, hx219_1, hx219_2, hl219_2, hi219_2⟩ := at_T62 HR0_2.out 1 p219 q219
        cases e219
        (try simp only [show (1 : Int).toNat = 1 from rfl, Nat.reduceMul, Nat.reduceEqDiff, Go.Addr.add, ↓reduceIte] at hx219_0)
        (try simp only [show (1 : Int).toNat = 1 from rfl, Nat.reduceMul, Nat.reduceEqDiff, Go.Addr.add, ↓reduceIte] at hx219_1)
        (try simp only [show (1 : Int).toNat = 1 from rfl, Nat.reduceMul, Nat.reduceEqDiff, Go.Addr.add, ↓reduceIte] at hx219_2)
        have qi219 : (1 < l0_2.length) = True := eq_true (by omega)
        (try rw [show ((1 : Int)).toNat = 1 from rfl] at hx219_0)
        (try rw [show 1 * 3 = 3 from rfl] at hx219_0)
        (try rw [show ((1 : Int)).toNat = 1 from rfl] at hx219_1)
        (try rw [show 1 * 3 = 3 from rfl] at hx219_1)
        (try rw [show ((1 : Int)).toNat = 1 from rfl] at hx219_2)
        (try rw [show 1 * 3 = 3 from rfl] at hx219_2)
        replace hx219_0 := (HB.out.cell (aa_ w _ hx219_0)).trans hx219_0
        replace hx219_1 := (HB.out.cell (aa_ w _ hx219_1)).trans hx219_1
        replace hx219_2 := (HB.out.cell (aa_ w _ hx219_2)).trans hx219_2
        have HR219_2 := ab_ hi219_2
        have HC219_2 := ab_ hl219_2
        clear hi219_2 hl219_2
        replace p219 := eq_true p219
        replace q219 := eq_true q219
        go_wp2_with (first | ((with_reducible refine gate_callee (f := 94) rfl ?_); refine goesL_ (some 14) rfl rfl Try.func94 (by kernel_rfl) rfl #[.agg #[.int .i64 ((rd_T62 l0_2 1).f0), .int .i64 ((rd_T62 l0_2 1).f1), .slice A219_2 ((rd_T62 l0_2 1).f2).length c219_2]] rfl (by (try simp only [List.map_toArray, List.map_cons, List.map_nil]); first | done | rfl | (simp only [List.length_drop, List.length_take]; rfl)) ?_; (with_reducible refine (spec_l7Simple.calls k ((rd_T62 l0_2 1).f0) ((rd_T62 l0_2 1).f1) _ _ ((rd_T62 l0_2 1).f2) t220 _ ?side1 ?side2 A7.out).mono ?_); (case side1 => repeat (first | exact (Kd.C_below HR219_2.out HB.out) | (with_reducible refine Kd.C_alloc ?_ _) | (with_reducible refine Kd.C_drewN ?_ _) | (with_reducible refine Kd.C_drew ?_))); (case side2 => exact HC219_2.out); rintro e w9 ⟨rfl, hb⟩; refine ⟨_, rfl, ?_⟩; have n0_ := ab_ (blk_below (g := gb218) (o := .cells #[.int .i64 a0_0, .int .i64 a0_1, .slice (some ad219) l0_2.length c0_2] 62 (0, 0)) (by (with_reducible repeat (first | refine ac_ ?_ _ | refine ae_ ?_ | refine ad_ ?_ _)); exact BK218.out) hb); have n1_ := ab_ (ar_ (by repeat (first | (with_reducible first | exact HB.out | apply ai_ | apply ag_ | apply ah_ | refine af_ ?_ GE218.out) | exact HB.out)) hb); clear BK218; clear HB; have BK218 := n0_; have HB := n1_; clear n0_ n1_; (try clear hb); (try clear hb2); (try clear hk); (try clear hi)))
        go_meet
        case rel => exact ⟨_, (t220), (by first | rfl | (simp; done) | (simp [*]; done)), H', ⟨by first | omega | exact Nat.le_refl _⟩, ⟨by (with_reducible repeat (first | refine ac_ ?_ _ | refine ae_ ?_ | refine ad_ ?_ _)); exact BK218.out⟩, ⟨by repeat (first | (with_reducible first | exact HB.out | apply ai_ | apply ag_ | apply ah_ | refine af_ ?_ GE218.out) | exact HB.out)⟩⟩
      · rw [if_neg c6] at H
        exact absurd H (by simp)
    · rw [if_neg c5] at H
      have c5b0 : (a0_0 == 4) = false := beq_eq_false_iff_ne.mpr c5
      have c5b1 : (a0_0 != 4) = true := bne_iff_ne.mpr c5
      (first | rw [c5b0] | (simp only [i64_w, i32_w]; rw [c5b0]) | skip)
      by_cases c10 : a0_0 = 5
      · rw [if_pos c10] at H
        have c10b0 : (a0_0 == 5) = true := beq_iff_eq.mpr c10
        have c10b1 : (a0_0 != 5) = false := bne_eq_false_iff_eq.mpr c10
        clear c10
        by_cases c11 : 0 < (l0_2.length : Int)
        · rw [if_pos c11] at H
          have c11b0 : decide (0 < (l0_2.length : Int)) = true := aq_ c11
          have c11b1 : decide (0 < l0_2.length) = true := aq_ (by omega)
          clear c11
          replace H := Option.bind_eq_some_iff.mp H
          obtain ⟨t222, A120, H⟩ := H
          replace H : (if t222 = true then (if 1 < (l0_2.length : Int) then ((spec_l7Simple.f k ((rd_T62 l0_2 1).f0) ((rd_T62 l0_2 1).f1) ((rd_T62 l0_2 1).f2)).bind fun t224 => (spec_l7Is.j0 k t224 a0_0 a0_1 l0_2)) else (none)) else (spec_l7Is.j0 k false a0_0 a0_1 l0_2)) = some r := H
          have A12 := ab_ A120
          clear A120
          by_cases c13 : t222 = true
          · subst c13
            have H1 : (if 1 < (l0_2.length : Int) then ((spec_l7Simple.f k ((rd_T62 l0_2 1).f0) ((rd_T62 l0_2 1).f1) ((rd_T62 l0_2 1).f2)).bind fun t224 => (spec_l7Is.j0 k t224 a0_0 a0_1 l0_2)) else (none)) = some r := by rw [if_pos rfl] at H; exact H
            clear H
            have H := H1
            clear H1
            by_cases c14 : 1 < (l0_2.length : Int)
            · rw [if_pos c14] at H
              have c14b0 : decide (1 < (l0_2.length : Int)) = true := aq_ c14
              have c14b1 : decide (1 < l0_2.length) = true := aq_ (by omega)
              clear c14
              replace H := Option.bind_eq_some_iff.mp H
              obtain ⟨t224, A150, H⟩ := H
              replace H : (spec_l7Is.j0 k t224 a0_0 a0_1 l0_2) = some r := H
              have A15 := ab_ A150
              clear A150
              have H' := ab_ H
              clear H
              have hcz16_0 : w3.cell? ⟨gb218, 0, none⟩ = some (.int .i64 a0_0) := (am_ BK218.out 0).trans rfl
              have hcz16_1 : w3.cell? ⟨gb218, 1, none⟩ = some (.int .i64 a0_1) := (am_ BK218.out 1).trans rfl
              have hcz16_2 : w3.cell? ⟨gb218, 2, none⟩ = some (.slice A0_2 l0_2.length c0_2) := (am_ BK218.out 2).trans rfl
              have hfz16_0 := al_ BK218.out 0
              have hfz16_1 := al_ BK218.out 1
              have hfz16_2 := al_ BK218.out 2
              have p221 : 0 ≤ (0 : Int) := (by omega)
              have q221 : 0 < (l0_2.length : Int) := of_decide_eq_true (by first | (with_reducible assumption) | assumption)
              obtain ⟨ad221, A221_2, c221_2, e221, hx221_0, hx221_1, hx221_2, hl221_2, hi221_2⟩ := at_T62 HR0_2.out 0 p221 q221
              cases e221
              have qi221 : (0 < l0_2.length) = True := eq_true (by omega)
              (try rw [show ((0 : Int)).toNat = 0 from rfl] at hx221_0)
              (try rw [show 0 * 3 = 0 from rfl] at hx221_0)
              (try rw [Addr.add_zero'] at hx221_0)
              (try rw [show ((0 : Int)).toNat = 0 from rfl] at hx221_1)
              (try rw [show 0 * 3 = 0 from rfl] at hx221_1)
              (try rw [Addr.add_zero'] at hx221_1)
              (try rw [show ((0 : Int)).toNat = 0 from rfl] at hx221_2)
              (try rw [show 0 * 3 = 0 from rfl] at hx221_2)
              (try rw [Addr.add_zero'] at hx221_2)
              replace hx221_0 := (HB.out.cell (aa_ w _ hx221_0)).trans hx221_0
              replace hx221_1 := (HB.out.cell (aa_ w _ hx221_1)).trans hx221_1
              replace hx221_2 := (HB.out.cell (aa_ w _ hx221_2)).trans hx221_2
              have HR221_2 := ab_ hi221_2
              have HC221_2 := ab_ hl221_2
              clear hi221_2 hl221_2
              replace p221 := eq_true p221
              replace q221 := eq_true q221
              go_wp2_with (first | ((with_reducible refine gate_callee (f := 94) rfl ?_); refine goesL_ (some 21) rfl rfl Try.func94 (by kernel_rfl) rfl #[.agg #[.int .i64 ((rd_T62 l0_2 0).f0), .int .i64 ((rd_T62 l0_2 0).f1), .slice A221_2 ((rd_T62 l0_2 0).f2).length c221_2]] rfl (by (try simp only [List.map_toArray, List.map_cons, List.map_nil]); first | done | rfl | (simp only [List.length_drop, List.length_take]; rfl)) ?_; (with_reducible refine (spec_l7Simple.calls k ((rd_T62 l0_2 0).f0) ((rd_T62 l0_2 0).f1) _ _ ((rd_T62 l0_2 0).f2) true _ ?side1 ?side2 A12.out).mono ?_); (case side1 => repeat (first | exact (Kd.C_below HR221_2.out HB.out) | (with_reducible refine Kd.C_alloc ?_ _) | (with_reducible refine Kd.C_drewN ?_ _) | (with_reducible refine Kd.C_drew ?_))); (case side2 => exact HC221_2.out); rintro e w17 ⟨rfl, hb⟩; refine ⟨_, rfl, ?_⟩; have n0_ := ab_ (blk_below (g := gb218) (o := .cells #[.int .i64 a0_0, .int .i64 a0_1, .slice (some ad221) l0_2.length c0_2] 62 (0, 0)) (by (with_reducible repeat (first | refine ac_ ?_ _ | refine ae_ ?_ | refine ad_ ?_ _)); exact BK218.out) hb); have n1_ := ab_ (ar_ (by repeat (first | (with_reducible first | exact HB.out | apply ai_ | apply ag_ | apply ah_ | refine af_ ?_ GE218.out) | exact HB.out)) hb); clear BK218; clear HB; have BK218 := n0_; have HB := n1_; clear n0_ n1_; (try clear hb); (try clear hb2); (try clear hk); (try clear hi); have hcz18_0 : w17.cell? ⟨gb218, 0, none⟩ = some (.int .i64 a0_0) := (am_ BK218.out 0).trans rfl; have hcz18_1 : w17.cell? ⟨gb218, 1, none⟩ = some (.int .i64 a0_1) := (am_ BK218.out 1).trans rfl; have hcz18_2 : w17.cell? ⟨gb218, 2, none⟩ = some (.slice (some ad221) l0_2.length c0_2) := (am_ BK218.out 2).trans rfl; have hfz18_0 := al_ BK218.out 0; have hfz18_1 := al_ BK218.out 1; have hfz18_2 := al_ BK218.out 2; have p223 : 0 ≤ (1 : Int) := (by omega); have q223 : 1 < (l0_2.length : Int) := of_decide_eq_true (by first | (with_reducible assumption) | assumption); obtain ⟨ad223, A223_2, c223_2, e223, hx223_0, hx223_1, hx223_2, hl223_2, hi223_2⟩ := at_T62 HR0_2.out 1 p223 q223; obtain rfl : ad221 = ad223 := (by injection e223); (try simp only [show (1 : Int).toNat = 1 from rfl, Nat.reduceMul, Nat.reduceEqDiff, Go.Addr.add, ↓reduceIte] at hx223_0); (try simp only [show (1 : Int).toNat = 1 from rfl, Nat.reduceMul, Nat.reduceEqDiff, Go.Addr.add, ↓reduceIte] at hx223_1); (try simp only [show (1 : Int).toNat = 1 from rfl, Nat.reduceMul, Nat.reduceEqDiff, Go.Addr.add, ↓reduceIte] at hx223_2); have qi223 : (1 < l0_2.length) = True := eq_true (by omega); (try rw [show ((1 : Int)).toNat = 1 from rfl] at hx223_0); (try rw [show 1 * 3 = 3 from rfl] at hx223_0); (try rw [show ((1 : Int)).toNat = 1 from rfl] at hx223_1); (try rw [show 1 * 3 = 3 from rfl] at hx223_1); (try rw [show ((1 : Int)).toNat = 1 from rfl] at hx223_2); (try rw [show 1 * 3 = 3 from rfl] at hx223_2); replace hx223_0 := (HB.out.cell (aa_ w _ hx223_0)).trans hx223_0; replace hx223_1 := (HB.out.cell (aa_ w _ hx223_1)).trans hx223_1; replace hx223_2 := (HB.out.cell (aa_ w _ hx223_2)).trans hx223_2; have HR223_2 := ab_ hi223_2; have HC223_2 := ab_ hl223_2; clear hi223_2 hl223_2; replace p223 := eq_true p223; replace q223 := eq_true q223) | (go_at_call 94; (with_reducible refine (spec_l7Simple.calls k ((rd_T62 l0_2 1).f0) ((rd_T62 l0_2 1).f1) _ _ ((rd_T62 l0_2 1).f2) t224 _ ?side1 ?side2 A15.out).mono ?_); (case side1 => repeat (first | exact (Kd.C_below HR223_2.out HB.out) | (with_reducible refine Kd.C_alloc ?_ _) | (with_reducible refine Kd.C_drewN ?_ _) | (with_reducible refine Kd.C_drew ?_))); (case side2 => exact HC223_2.out); rintro e w19 ⟨rfl, hb⟩; have n0_ := ab_ (blk_below (g := gb218) (o := .cells #[.int .i64 a0_0, .int .i64 a0_1, .slice (some ad221) l0_2.length c0_2] 62 (0, 0)) (by (with_reducible repeat (first | refine ac_ ?_ _ | refine ae_ ?_ | refine ad_ ?_ _)); exact BK218.out) hb); have n1_ := ab_ (ar_ (by repeat (first | (with_reducible first | exact HB.out | apply ai_ | apply ag_ | apply ah_ | refine af_ ?_ GE218.out) | exact HB.out)) hb); clear BK218; clear HB; have BK218 := n0_; have HB := n1_; clear n0_ n1_; (try clear hb); (try clear hb2); (try clear hk); (try clear hi)))
              go_meet
              case rel => exact ⟨_, (t224), (by first | rfl | (simp; done) | (simp [*]; done)), H', ⟨by first | omega | exact Nat.le_refl _⟩, ⟨by (with_reducible repeat (first | refine ac_ ?_ _ | refine ae_ ?_ | refine ad_ ?_ _)); exact BK218.out⟩, ⟨by repeat (first | (with_reducible first | exact HB.out | apply ai_ | apply ag_ | apply ah_ | refine af_ ?_ GE218.out) | exact HB.out)⟩⟩
            · rw [if_neg c14] at H
              exact absurd H (by simp)
          · replace c13 := Bool.eq_false_iff.mpr c13
            subst c13
            have H1 : (spec_l7Is.j0 k false a0_0 a0_1 l0_2) = some r := by rw [if_neg (show ¬ (false = true) by decide)] at H; exact H
            clear H
            have H := H1
            clear H1
            have H' := ab_ H
            clear H
            have hcz20_0 : w3.cell? ⟨gb218, 0, none⟩ = some (.int .i64 a0_0) := (am_ BK218.out 0).trans rfl
            have hcz20_1 : w3.cell? ⟨gb218, 1, none⟩ = some (.int .i64 a0_1) := (am_ BK218.out 1).trans rfl
            have hcz20_2 : w3.cell? ⟨gb218, 2, none⟩ = some (.slice A0_2 l0_2.length c0_2) := (am_ BK218.out 2).trans rfl
            have hfz20_0 := al_ BK218.out 0
            have hfz20_1 := al_ BK218.out 1
            have hfz20_2 := al_ BK218.out 2
            have p221 : 0 ≤ (0 : Int) := (by omega)
            have q221 : 0 < (l0_2.length : Int) := of_decide_eq_true (by first | (with_reducible assumption) | assumption)
            obtain ⟨ad221, A221_2, c221_2, e221, hx221_0, hx221_1, hx221_2, hl221_2, hi221_2⟩ := at_T62 HR0_2.out 0 p221 q221
            cases e221
            have qi221 : (0 < l0_2.length) = True := eq_true (by omega)
            (try rw [show ((0 : Int)).toNat = 0 from rfl] at hx221_0)
            (try rw [show 0 * 3 = 0 from rfl] at hx221_0)
            (try rw [Addr.add_zero'] at hx221_0)
            (try rw [show ((0 : Int)).toNat = 0 from rfl] at hx221_1)
            (try rw [show 0 * 3 = 0 from rfl] at hx221_1)
            (try rw [Addr.add_zero'] at hx221_1)
            (try rw [show ((0 : Int)).toNat = 0 from rfl] at hx221_2)
            (try rw [show 0 * 3 = 0 from rfl] at hx221_2)
            (try rw [Addr.add_zero'] at hx221_2)
            replace hx221_0 := (HB.out.cell (aa_ w _ hx221_0)).trans hx221_0
            replace hx221_1 := (HB.out.cell (aa_ w _ hx221_1)).trans hx221_1
            replace hx221_2 := (HB.out.cell (aa_ w _ hx221_2)).trans hx221_2
            have HR221_2 := ab_ hi221_2
            have HC221_2 := ab_ hl221_2
            clear hi221_2 hl221_2
            replace p221 := eq_true p221
            replace q221 := eq_true q221
            go_wp2_with (first | ((with_reducible refine gate_callee (f := 94) rfl ?_); refine goesL_ (some 21) rfl rfl Try.func94 (by kernel_rfl) rfl #[.agg #[.int .i64 ((rd_T62 l0_2 0).f0), .int .i64 ((rd_T62 l0_2 0).f1), .slice A221_2 ((rd_T62 l0_2 0).f2).length c221_2]] rfl (by (try simp only [List.map_toArray, List.map_cons, List.map_nil]); first | done | rfl | (simp only [List.length_drop, List.length_take]; rfl)) ?_; (with_reducible refine (spec_l7Simple.calls k ((rd_T62 l0_2 0).f0) ((rd_T62 l0_2 0).f1) _ _ ((rd_T62 l0_2 0).f2) false _ ?side1 ?side2 A12.out).mono ?_); (case side1 => repeat (first | exact (Kd.C_below HR221_2.out HB.out) | (with_reducible refine Kd.C_alloc ?_ _) | (with_reducible refine Kd.C_drewN ?_ _) | (with_reducible refine Kd.C_drew ?_))); (case side2 => exact HC221_2.out); rintro e w21 ⟨rfl, hb⟩; refine ⟨_, rfl, ?_⟩; have n0_ := ab_ (blk_below (g := gb218) (o := .cells #[.int .i64 a0_0, .int .i64 a0_1, .slice (some ad221) l0_2.length c0_2] 62 (0, 0)) (by (with_reducible repeat (first | refine ac_ ?_ _ | refine ae_ ?_ | refine ad_ ?_ _)); exact BK218.out) hb); have n1_ := ab_ (ar_ (by repeat (first | (with_reducible first | exact HB.out | apply ai_ | apply ag_ | apply ah_ | refine af_ ?_ GE218.out) | exact HB.out)) hb); clear BK218; clear HB; have BK218 := n0_; have HB := n1_; clear n0_ n1_; (try clear hb); (try clear hb2); (try clear hk); (try clear hi)))
            go_meet
            case rel => exact ⟨_, (false), (by first | rfl | (simp; done) | (simp [*]; done)), H', ⟨by first | omega | exact Nat.le_refl _⟩, ⟨by (with_reducible repeat (first | refine ac_ ?_ _ | refine ae_ ?_ | refine ad_ ?_ _)); exact BK218.out⟩, ⟨by repeat (first | (with_reducible first | exact HB.out | apply ai_ | apply ag_ | apply ah_ | refine af_ ?_ GE218.out) | exact HB.out)⟩⟩
        · rw [if_neg c11] at H
          exact absurd H (by simp)
      · rw [if_neg c10] at H
        have c10b0 : (a0_0 == 5) = false := beq_eq_false_iff_ne.mpr c10
        have c10b1 : (a0_0 != 5) = true := bne_iff_ne.mpr c10
        by_cases c22 : a0_0 = 6
        · rw [if_pos c22] at H
          have c22b0 : (a0_0 == 6) = true := beq_iff_eq.mpr c22
          have c22b1 : (a0_0 != 6) = false := bne_eq_false_iff_eq.mpr c22
          clear c22
          by_cases c23 : 0 < (l0_2.length : Int)
          · rw [if_pos c23] at H
            have c23b0 : decide (0 < (l0_2.length : Int)) = true := aq_ c23
            have c23b1 : decide (0 < l0_2.length) = true := aq_ (by omega)
            clear c23
            replace H := Option.bind_eq_some_iff.mp H
            obtain ⟨t226, A240, H⟩ := H
            replace H : (spec_l7Is.j0 k t226 a0_0 a0_1 l0_2) = some r := H
            have A24 := ab_ A240
            clear A240
            have H' := ab_ H
            clear H
            have hcz25_0 : w3.cell? ⟨gb218, 0, none⟩ = some (.int .i64 a0_0) := (am_ BK218.out 0).trans rfl
            have hcz25_1 : w3.cell? ⟨gb218, 1, none⟩ = some (.int .i64 a0_1) := (am_ BK218.out 1).trans rfl
            have hcz25_2 : w3.cell? ⟨gb218, 2, none⟩ = some (.slice A0_2 l0_2.length c0_2) := (am_ BK218.out 2).trans rfl
            have hfz25_0 := al_ BK218.out 0
            have hfz25_1 := al_ BK218.out 1
            have hfz25_2 := al_ BK218.out 2
            have p225 : 0 ≤ (0 : Int) := (by omega)
            have q225 : 0 < (l0_2.length : Int) := of_decide_eq_true (by first | (with_reducible assumption) | assumption)
            obtain ⟨ad225, A225_2, c225_2, e225, hx225_0, hx225_1, hx225_2, hl225_2, hi225_2⟩ := at_T62 HR0_2.out 0 p225 q225
            cases e225
            have qi225 : (0 < l0_2.length) = True := eq_true (by omega)
            (try rw [show ((0 : Int)).toNat = 0 from rfl] at hx225_0)
            (try rw [show 0 * 3 = 0 from rfl] at hx225_0)
            (try rw [Addr.add_zero'] at hx225_0)
            (try rw [show ((0 : Int)).toNat = 0 from rfl] at hx225_1)
            (try rw [show 0 * 3 = 0 from rfl] at hx225_1)
            (try rw [Addr.add_zero'] at hx225_1)
            (try rw [show ((0 : Int)).toNat = 0 from rfl] at hx225_2)
            (try rw [show 0 * 3 = 0 from rfl] at hx225_2)
            (try rw [Addr.add_zero'] at hx225_2)
            replace hx225_0 := (HB.out.cell (aa_ w _ hx225_0)).trans hx225_0
            replace hx225_1 := (HB.out.cell (aa_ w _ hx225_1)).trans hx225_1
            replace hx225_2 := (HB.out.cell (aa_ w _ hx225_2)).trans hx225_2
            have HR225_2 := ab_ hi225_2
            have HC225_2 := ab_ hl225_2
            clear hi225_2 hl225_2
            replace p225 := eq_true p225
            replace q225 := eq_true q225
            go_wp2_with (first | ((with_reducible refine gate_callee (f := 94) rfl ?_); refine goesL_ (some 35) rfl rfl Try.func94 (by kernel_rfl) rfl #[.agg #[.int .i64 ((rd_T62 l0_2 0).f0), .int .i64 ((rd_T62 l0_2 0).f1), .slice A225_2 ((rd_T62 l0_2 0).f2).length c225_2]] rfl (by (try simp only [List.map_toArray, List.map_cons, List.map_nil]); first | done | rfl | (simp only [List.length_drop, List.length_take]; rfl)) ?_; (with_reducible refine (spec_l7Simple.calls k ((rd_T62 l0_2 0).f0) ((rd_T62 l0_2 0).f1) _ _ ((rd_T62 l0_2 0).f2) t226 _ ?side1 ?side2 A24.out).mono ?_); (case side1 => repeat (first | exact (Kd.C_below HR225_2.out HB.out) | (with_reducible refine Kd.C_alloc ?_ _) | (with_reducible refine Kd.C_drewN ?_ _) | (with_reducible refine Kd.C_drew ?_))); (case side2 => exact HC225_2.out); rintro e w26 ⟨rfl, hb⟩; refine ⟨_, rfl, ?_⟩; have n0_ := ab_ (blk_below (g := gb218) (o := .cells #[.int .i64 a0_0, .int .i64 a0_1, .slice (some ad225) l0_2.length c0_2] 62 (0, 0)) (by (with_reducible repeat (first | refine ac_ ?_ _ | refine ae_ ?_ | refine ad_ ?_ _)); exact BK218.out) hb); have n1_ := ab_ (ar_ (by repeat (first | (with_reducible first | exact HB.out | apply ai_ | apply ag_ | apply ah_ | refine af_ ?_ GE218.out) | exact HB.out)) hb); clear BK218; clear HB; have BK218 := n0_; have HB := n1_; clear n0_ n1_; (try clear hb); (try clear hb2); (try clear hk); (try clear hi)))
            go_meet
            case rel => exact ⟨_, (t226), (by first | rfl | (simp; done) | (simp [*]; done)), H', ⟨by first | omega | exact Nat.le_refl _⟩, ⟨by (with_reducible repeat (first | refine ac_ ?_ _ | refine ae_ ?_ | refine ad_ ?_ _)); exact BK218.out⟩, ⟨by repeat (first | (with_reducible first | exact HB.out | apply ai_ | apply ag_ | apply ah_ | refine af_ ?_ GE218.out) | exact HB.out)⟩⟩
          · rw [if_neg c23] at H
            exact absurd H (by simp)
        · rw [if_neg c22] at H
          have c22b0 : (a0_0 == 6) = false := beq_eq_false_iff_ne.mpr c22
          have c22b1 : (a0_0 != 6) = true := bne_iff_ne.mpr c22
          by_cases c27 : a0_0 = 7
          · rw [if_pos c27] at H
            have c27b0 : (a0_0 == 7) = true := beq_iff_eq.mpr c27
            have c27b1 : (a0_0 != 7) = false := bne_eq_false_iff_eq.mpr c27
            clear c27
            have H' := ab_ H
            clear H
            go_wp2
            go_meet
            case rel => exact ⟨_, (false), (by first | rfl | (simp; done) | (simp [*]; done)), H', ⟨by first | omega | exact Nat.le_refl _⟩, ⟨by (with_reducible repeat (first | refine ac_ ?_ _ | refine ae_ ?_ | refine ad_ ?_ _)); exact BK218.out⟩, ⟨by repeat (first | (with_reducible first | exact HB.out | apply ai_ | apply ag_ | apply ah_ | refine af_ ?_ GE218.out) | exact HB.out)⟩⟩
          · rw [if_neg c27] at H
            have c27b0 : (a0_0 == 7) = false := beq_eq_false_iff_ne.mpr c27
            have c27b1 : (a0_0 != 7) = true := bne_iff_ne.mpr c27
            have H' := ab_ H
            clear H
            go_wp2
            go_meet
            case rel => exact ⟨_, (true), (by first | rfl | (simp; done) | (simp [*]; done)), H', ⟨by first | omega | exact Nat.le_refl _⟩, ⟨by (with_reducible repeat (first | refine ac_ ?_ _ | refine ae_ ?_ | refine ad_ ?_ _)); exact BK218.out⟩, ⟨by repeat (first | (with_reducible first | exact HB.out | apply ai_ | apply ag_ | apply ah_ | refine af_ ?_ GE218.out) | exact HB.out)⟩⟩
  case rest =>
    clear HC2
    try clear c1
    try clear c2
    try clear p2
    try clear q2
    try clear hx2
    try clear qi2
    try clear c5
    try clear c5b0
    try clear c5b1
    try clear c6
    try clear c6b0
    try clear c6b1
    try clear c9
    try clear c10
    try clear c10b0
    try clear c10b1
    try clear c11
    try clear c11b0
    try clear c11b1
    try clear c13
    try clear c14
    try clear c14b0
    try clear c14b1
    try clear c21
    try clear p21
    try clear q21
    try clear hx21
    try clear qi21
    try clear c22
    try clear c22b0
    try clear c22b1
    try clear p22
    try clear q22
    try clear hx22
    try clear qi22
    try clear c23
    try clear c23b0
    try clear c23b1
    try clear c27
    try clear c27b0
    try clear c27b1
    try clear hcz16_0
    try clear hcz16_1
    try clear hcz16_2
    try clear hcz18_0
    try clear hcz18_1
    try clear hcz18_2
    try clear hcz20_0
    try clear hcz20_1
    try clear hcz20_2
    try clear hcz25_0
    try clear hcz25_1
    try clear hcz25_2
    try clear hcz4_0
    try clear hcz4_1
    try clear hcz4_2
    try clear hcz8_0
    try clear hcz8_1
    try clear hcz8_2
    try clear hfz16_0
    try clear hfz16_1
    try clear hfz16_2
    try clear hfz18_0
    try clear hfz18_1
    try clear hfz18_2
    try clear hfz20_0
    try clear hfz20_1
    try clear hfz20_2
    try clear hfz25_0
    try clear hfz25_1
    try clear hfz25_2
    try clear hfz4_0
    try clear hfz4_1
    try clear hfz4_2
    try clear hfz8_0
    try clear hfz8_1
    try clear hfz8_2
    try clear hx219_0
    try clear hx219_1
    try clear hx219_2
    try clear hx221_0
    try clear hx221_1
    try clear hx221_2
    try clear hx223_0
    try clear hx223_1
    try clear hx223_2
    try clear hx225_0
    try clear hx225_1
    try clear hx225_2
    try clear p219
    try clear p221
    try clear p223
    try clear p225
    try clear q219
    try clear q221
    try clear q223
    try clear q225
    obtain ⟨kq, x3_1, rfl, HA, HJ1, BK218, HB⟩ := hcut
    cases kq with
    | zero => exact absurd HA.out (by simp [spec_l7Is.j0])
    | succ kj1 =>
      have H := HA.out
      clear HA
      simp only [spec_l7Is.j0] at H
      have H' := ab_ H
      clear H
      have hcz28_0 : wc.cell? ⟨gb218, 0, none⟩ = some (.int .i64 a0_0) := (am_ BK218.out 0).trans rfl
      have hcz28_1 : wc.cell? ⟨gb218, 1, none⟩ = some (.int .i64 a0_1) := (am_ BK218.out 1).trans rfl
      have hcz28_2 : wc.cell? ⟨gb218, 2, none⟩ = some (.slice A0_2 l0_2.length c0_2) := (am_ BK218.out 2).trans rfl
      have hfz28_0 := al_ BK218.out 0
      have hfz28_1 := al_ BK218.out 1
      have hfz28_2 := al_ BK218.out 2
      go_wp2
      go_loopg [3, 41] kj1 (fun kq v3 v41 w' => ∃ (x3_2 : Bool) (x41_2 : Int), v3 = .bool x3_2 ∧ v41 = .int .i64 x41_2 ∧ Aside0 (spec_l7Is.l0 kq x3_2 l0_2 (l0_2.length : Int) x41_2 = some r) ∧ Aside0 (kq ≤ kj1) ∧ Aside0 (w'.heap[gb218]? = some (.cells #[.int .i64 a0_0, .int .i64 a0_1, (.slice A0_2 l0_2.length c0_2)] 62 (0, 0))) ∧ Aside0 (Below w.heap.size w w'))
      case atStart => exact ⟨(x3_1), (0), (by first | rfl | (simp; done) | (simp [*]; done)), (by first | rfl | (simp; done) | (simp [*]; done)), H', ⟨Nat.le_refl _⟩, ⟨by (with_reducible repeat (first | refine ac_ ?_ _ | refine ae_ ?_ | refine ad_ ?_ _)); exact BK218.out⟩, ⟨by repeat (first | (with_reducible first | exact HB.out | apply ai_ | apply ag_ | apply ah_ | refine af_ ?_ GE218.out) | exact HB.out)⟩⟩
      case round =>
        clear H'
        try clear c1
        try clear c2
        try clear p2
        try clear q2
        try clear hx2
        try clear qi2
        try clear c5
        try clear c5b0
        try clear c5b1
        try clear c6
        try clear c6b0
        try clear c6b1
        try clear c9
        try clear c10
        try clear c10b0
        try clear c10b1
        try clear c11
        try clear c11b0
        try clear c11b1
        try clear c13
        try clear c14
        try clear c14b0
        try clear c14b1
        try clear c21
        try clear p21
        try clear q21
        try clear hx21
        try clear qi21
        try clear c22
        try clear c22b0
        try clear c22b1
        try clear p22
        try clear q22
        try clear hx22
        try clear qi22
        try clear c23
        try clear c23b0
        try clear c23b1
        try clear c27
        try clear c27b0
        try clear c27b1
        try clear hcz16_0
        try clear hcz16_1
        try clear hcz16_2
        try clear hcz18_0
        try clear hcz18_1
        try clear hcz18_2
        try clear hcz20_0
        try clear hcz20_1
        try clear hcz20_2
        try clear hcz25_0
        try clear hcz25_1
        try clear hcz25_2
        try clear hcz28_0
        try clear hcz28_1
        try clear hcz28_2
        try clear hcz4_0
        try clear hcz4_1
        try clear hcz4_2
        try clear hcz8_0
        try clear hcz8_1
        try clear hcz8_2
        try clear hfz16_0
        try clear hfz16_1
        try clear hfz16_2
        try clear hfz18_0
        try clear hfz18_1
        try clear hfz18_2
        try clear hfz20_0
        try clear hfz20_1
        try clear hfz20_2
        try clear hfz25_0
        try clear hfz25_1
        try clear hfz25_2
        try clear hfz28_0
        try clear hfz28_1
        try clear hfz28_2
        try clear hfz4_0
        try clear hfz4_1
        try clear hfz4_2
        try clear hfz8_0
        try clear hfz8_1
        try clear hfz8_2
        try clear hx219_0
        try clear hx219_1
        try clear hx219_2
        try clear hx221_0
        try clear hx221_1
        try clear hx221_2
        try clear hx223_0
        try clear hx223_1
        try clear hx223_2
        try clear hx225_0
        try clear hx225_1
        try clear hx225_2
        try clear p2
        try clear p21
        try clear p219
        try clear p22
        try clear p221
        try clear p223
        try clear p225
        try clear q2
        try clear q21
        try clear q219
        try clear q22
        try clear q221
        try clear q223
        try clear q225
        obtain ⟨x3_2, x41_2, rfl, rfl, HA, HK2, BK218, HB⟩ := hrel
        cases gk with
        | zero => exact absurd HA.out (by simp [spec_l7Is.l0])
        | succ k2 =>
          have H := HA.out
          clear HA
          simp only [spec_l7Is.l0] at H
          by_cases c29 : x41_2 < (l0_2.length : Int)
          · rw [if_pos c29] at H
            have c29b0 : decide (x41_2 < (l0_2.length : Int)) = true := aq_ c29
            clear c29
            by_cases c30 : 0 ≤ x41_2
            · rw [if_pos c30] at H
              have c30b0 : decide (0 ≤ x41_2) = true := aq_ c30
              clear c30
              by_cases c31 : x41_2 < (l0_2.length : Int)
              · rw [if_pos c31] at H
                have c31b0 : decide (x41_2 < (l0_2.length : Int)) = true := aq_ c31
                clear c31
                by_cases c32 : x3_2 = true
                · subst c32
                  have H1 : ((spec_l7Is.f k2 ((rd_T62 l0_2 x41_2).f0) ((rd_T62 l0_2 x41_2).f1) ((rd_T62 l0_2 x41_2).f2)).bind fun t229 => (spec_l7Is.l0 k2 t229 l0_2 (l0_2.length : Int) (wrap64 (x41_2 + 1)))) = some r := by rw [if_pos rfl] at H; exact H
                  clear H
                  have H := H1
                  clear H1
                  replace H := Option.bind_eq_some_iff.mp H
                  obtain ⟨t229, A330, H⟩ := H
                  replace H : (spec_l7Is.l0 k2 t229 l0_2 (l0_2.length : Int) (wrap64 (x41_2 + 1))) = some r := H
                  have A33 := ab_ A330
                  clear A330
                  have H' := ab_ H
                  clear H
                  have p227 : 0 ≤ (x41_2 : Int) := of_decide_eq_true (by first | (with_reducible assumption) | assumption)
                  have q227 : x41_2 < (l0_2.length : Int) := of_decide_eq_true (by first | (with_reducible assumption) | assumption)
                  obtain ⟨ad227, A227_2, c227_2, e227, hx227_0, hx227_1, hx227_2, hl227_2, hi227_2⟩ := at_T62 HR0_2.out x41_2 p227 q227
                  cases e227
                  replace hx227_0 := (HB.out.cell (aa_ w _ hx227_0)).trans hx227_0
                  replace hx227_1 := (HB.out.cell (aa_ w _ hx227_1)).trans hx227_1
                  replace hx227_2 := (HB.out.cell (aa_ w _ hx227_2)).trans hx227_2
                  have HR227_2 := ab_ hi227_2
                  have HC227_2 := ab_ hl227_2
                  clear hi227_2 hl227_2
                  replace p227 := eq_true p227
                  replace q227 := eq_true q227
                  go_wp2_with (first | ((with_reducible refine gate_dst (N := 5) rfl ?_); refine box_event ?hg (N := 5) ?hd (cs := #[.int .i64 0, .int .i64 0, .slice none 0 0]) (t := 62) ?hr ?_; (case hd => rfl); (case hg => rfl); (case hr => first | (go_simp; done) | (go_simp; rfl)); intro gb228 hg w34 hbox hb; have n0_ := ab_ (blk_below (g := gb218) (o := .cells #[.int .i64 a0_0, .int .i64 a0_1, .slice (some ad227) l0_2.length c0_2] 62 (0, 0)) (by (with_reducible repeat (first | refine ac_ ?_ _ | refine ae_ ?_ | refine ad_ ?_ _)); exact BK218.out) hb); have n1_ := ab_ (ar_ (by repeat (first | (with_reducible first | exact HB.out | apply ai_ | apply ag_ | apply ah_ | refine af_ ?_ GE218.out) | exact HB.out)) hb); have n2_ := ab_ (hbox); have n3_ := ab_ ((by rw [hg]; exact (below_size (by repeat (first | (with_reducible first | exact HB.out | apply ai_ | apply ag_ | apply ah_ | refine af_ ?_ GE218.out) | exact HB.out))) : w.heap.size ≤ gb228)); have n4_ := ab_ ((by rw [hg]; exact (below_size (by repeat (first | (with_reducible first | exact HB.out | apply ai_ | apply ag_ | apply ah_ | refine af_ ?_ GE218.out) | exact HB.out))) : w.heap.size ≤ gb228)); have n5_ := ab_ ((by rw [hg]; exact ak_ (blk_lt (g := gb218) (o := .cells #[.int .i64 a0_0, .int .i64 a0_1, .slice (some ad227) l0_2.length c0_2] 62 (0, 0)) (by (with_reducible repeat (first | refine ac_ ?_ _ | refine ae_ ?_ | refine ad_ ?_ _)); exact BK218.out)) : gb218 ≠ gb228)); have n6_ := ab_ ((by rw [hg]; exact Nat.ne_of_gt (blk_lt (g := gb218) (o := .cells #[.int .i64 a0_0, .int .i64 a0_1, .slice (some ad227) l0_2.length c0_2] 62 (0, 0)) (by (with_reducible repeat (first | refine ac_ ?_ _ | refine ae_ ?_ | refine ad_ ?_ _)); exact BK218.out)) : gb228 ≠ gb218)); clear BK218; clear HB; have BK218 := n0_; have HB := n1_; have BK228 := n2_; have GW228 := n3_; have GE228 := n4_; have NB218_228 := n5_; have NB228_218 := n6_; clear n0_ n1_ n2_ n3_ n4_ n5_ n6_; clear hb hbox hg; have hnb35 := NB228_218.out; have hnc35 := NB218_228.out; have hcz36_0 : w34.cell? ⟨gb228, 0, none⟩ = some (.int .i64 0) := (am_ BK228.out 0).trans rfl; have hcz36_1 : w34.cell? ⟨gb228, 1, none⟩ = some (.int .i64 0) := (am_ BK228.out 1).trans rfl; have hcz36_2 : w34.cell? ⟨gb228, 2, none⟩ = some (.slice none 0 0) := (am_ BK228.out 2).trans rfl; have hfz36_0 := al_ BK228.out 0; have hfz36_1 := al_ BK228.out 1; have hfz36_2 := al_ BK228.out 2) | (go_at_call 55; (with_reducible refine (ih k2 (by have := HJ1.out; have := HK2.out; omega) ((rd_T62 l0_2 x41_2).f0) ((rd_T62 l0_2 x41_2).f1) _ _ ((rd_T62 l0_2 x41_2).f2) t229 _ ?side1 ?side2 A33.out).mono ?_); (case side1 => exact Kd.C_below HR227_2.out (by repeat (first | (with_reducible first | exact HB.out | apply ai_ | apply ag_ | apply ah_ | refine af_ ?_ GE218.out | refine af_ ?_ GE228.out) | exact HB.out))); (case side2 => exact HC227_2.out); rintro e w37 ⟨rfl, hb⟩; have n0_ := ab_ (blk_below (g := gb218) (o := .cells #[.int .i64 a0_0, .int .i64 a0_1, .slice (some ad227) l0_2.length c0_2] 62 (0, 0)) (by (with_reducible repeat (first | refine ac_ ?_ _ | refine ae_ ?_ | refine ad_ ?_ _)); refine blk_far ?_ NB218_228.out _; (with_reducible repeat (first | refine ac_ ?_ _ | refine ae_ ?_ | refine ad_ ?_ _)); refine blk_far ?_ NB218_228.out _; (with_reducible repeat (first | refine ac_ ?_ _ | refine ae_ ?_ | refine ad_ ?_ _)); refine blk_far ?_ NB218_228.out _; (with_reducible repeat (first | refine ac_ ?_ _ | refine ae_ ?_ | refine ad_ ?_ _)); exact BK218.out) hb); have n1_ := ab_ (blk_below (g := gb228) (o := .cells #[.int .i64 ((rd_T62 l0_2 x41_2).f0), .int .i64 ((rd_T62 l0_2 x41_2).f1), .slice A227_2 ((rd_T62 l0_2 x41_2).f2).length c227_2] 62 (0, 0)) (by (with_reducible repeat (first | refine ac_ ?_ _ | refine ae_ ?_ | refine ad_ ?_ _)); refine blk_put (cs := #[.int .i64 ((rd_T62 l0_2 x41_2).f0), .int .i64 ((rd_T62 l0_2 x41_2).f1), .slice none 0 0]) ?_ 2 _ rfl; (with_reducible repeat (first | refine ac_ ?_ _ | refine ae_ ?_ | refine ad_ ?_ _)); refine blk_put (cs := #[.int .i64 ((rd_T62 l0_2 x41_2).f0), .int .i64 0, .slice none 0 0]) ?_ 1 _ rfl; (with_reducible repeat (first | refine ac_ ?_ _ | refine ae_ ?_ | refine ad_ ?_ _)); refine blk_put (cs := #[.int .i64 0, .int .i64 0, .slice none 0 0]) ?_ 0 _ rfl; (with_reducible repeat (first | refine ac_ ?_ _ | refine ae_ ?_ | refine ad_ ?_ _)); exact BK228.out) hb); have n2_ := ab_ (ar_ (by repeat (first | (with_reducible first | exact HB.out | apply ai_ | apply ag_ | apply ah_ | refine af_ ?_ GE218.out | refine af_ ?_ GE228.out) | exact HB.out)) hb); clear BK218; clear BK228; clear HB; have BK218 := n0_; have BK228 := n1_; have HB := n2_; clear n0_ n1_ n2_; (try clear hb); (try clear hb2); (try clear hk); (try clear hi)))
                  go_roundg k2
                  case measure => have := HJ1.out; have := HK2.out; omega
                  case rel => exact ⟨(t229), (wrap64 (x41_2 + 1)), (by first | rfl | (simp; done) | (simp [*]; done)), (by first | rfl | (simp; done) | (simp [*]; done)), H', ⟨by have := HJ1.out; have := HK2.out; omega⟩, ⟨by (with_reducible repeat (first | refine ac_ ?_ _ | refine ae_ ?_ | refine ad_ ?_ _)); exact BK218.out⟩, ⟨by repeat (first | (with_reducible first | exact HB.out | apply ai_ | apply ag_ | apply ah_ | refine af_ ?_ GE218.out | refine af_ ?_ GE228.out) | exact HB.out)⟩⟩
                · replace c32 := Bool.eq_false_iff.mpr c32
                  subst c32
                  have H1 : (spec_l7Is.l0 k2 false l0_2 (l0_2.length : Int) (wrap64 (x41_2 + 1))) = some r := by rw [if_neg (show ¬ (false = true) by decide)] at H; exact H
                  clear H
                  have H := H1
                  clear H1
                  have H' := ab_ H
                  clear H
                  have p227 : 0 ≤ (x41_2 : Int) := of_decide_eq_true (by first | (with_reducible assumption) | assumption)
                  have q227 : x41_2 < (l0_2.length : Int) := of_decide_eq_true (by first | (with_reducible assumption) | assumption)
                  obtain ⟨ad227, A227_2, c227_2, e227, hx227_0, hx227_1, hx227_2, hl227_2, hi227_2⟩ := at_T62 HR0_2.out x41_2 p227 q227
                  cases e227
                  replace hx227_0 := (HB.out.cell (aa_ w _ hx227_0)).trans hx227_0
                  replace hx227_1 := (HB.out.cell (aa_ w _ hx227_1)).trans hx227_1
                  replace hx227_2 := (HB.out.cell (aa_ w _ hx227_2)).trans hx227_2
                  have HR227_2 := ab_ hi227_2
                  have HC227_2 := ab_ hl227_2
                  clear hi227_2 hl227_2
                  replace p227 := eq_true p227
                  replace q227 := eq_true q227
                  go_wp2_with (first | ((with_reducible refine gate_dst (N := 5) rfl ?_); refine box_event ?hg (N := 5) ?hd (cs := #[.int .i64 0, .int .i64 0, .slice none 0 0]) (t := 62) ?hr ?_; (case hd => rfl); (case hg => rfl); (case hr => first | (go_simp; done) | (go_simp; rfl)); intro gb228 hg w38 hbox hb; have n0_ := ab_ (blk_below (g := gb218) (o := .cells #[.int .i64 a0_0, .int .i64 a0_1, .slice (some ad227) l0_2.length c0_2] 62 (0, 0)) (by (with_reducible repeat (first | refine ac_ ?_ _ | refine ae_ ?_ | refine ad_ ?_ _)); exact BK218.out) hb); have n1_ := ab_ (ar_ (by repeat (first | (with_reducible first | exact HB.out | apply ai_ | apply ag_ | apply ah_ | refine af_ ?_ GE218.out) | exact HB.out)) hb); have n2_ := ab_ (hbox); have n3_ := ab_ ((by rw [hg]; exact (below_size (by repeat (first | (with_reducible first | exact HB.out | apply ai_ | apply ag_ | apply ah_ | refine af_ ?_ GE218.out) | exact HB.out))) : w.heap.size ≤ gb228)); have n4_ := ab_ ((by rw [hg]; exact (below_size (by repeat (first | (with_reducible first | exact HB.out | apply ai_ | apply ag_ | apply ah_ | refine af_ ?_ GE218.out) | exact HB.out))) : w.heap.size ≤ gb228)); have n5_ := ab_ ((by rw [hg]; exact ak_ (blk_lt (g := gb218) (o := .cells #[.int .i64 a0_0, .int .i64 a0_1, .slice (some ad227) l0_2.length c0_2] 62 (0, 0)) (by (with_reducible repeat (first | refine ac_ ?_ _ | refine ae_ ?_ | refine ad_ ?_ _)); exact BK218.out)) : gb218 ≠ gb228)); have n6_ := ab_ ((by rw [hg]; exact Nat.ne_of_gt (blk_lt (g := gb218) (o := .cells #[.int .i64 a0_0, .int .i64 a0_1, .slice (some ad227) l0_2.length c0_2] 62 (0, 0)) (by (with_reducible repeat (first | refine ac_ ?_ _ | refine ae_ ?_ | refine ad_ ?_ _)); exact BK218.out)) : gb228 ≠ gb218)); clear BK218; clear HB; have BK218 := n0_; have HB := n1_; have BK228 := n2_; have GW228 := n3_; have GE228 := n4_; have NB218_228 := n5_; have NB228_218 := n6_; clear n0_ n1_ n2_ n3_ n4_ n5_ n6_; clear hb hbox hg; have hnb39 := NB228_218.out; have hnc39 := NB218_228.out; have hcz40_0 : w38.cell? ⟨gb228, 0, none⟩ = some (.int .i64 0) := (am_ BK228.out 0).trans rfl; have hcz40_1 : w38.cell? ⟨gb228, 1, none⟩ = some (.int .i64 0) := (am_ BK228.out 1).trans rfl; have hcz40_2 : w38.cell? ⟨gb228, 2, none⟩ = some (.slice none 0 0) := (am_ BK228.out 2).trans rfl; have hfz40_0 := al_ BK228.out 0; have hfz40_1 := al_ BK228.out 1; have hfz40_2 := al_ BK228.out 2))
                  go_roundg k2
                  case measure => have := HJ1.out; have := HK2.out; omega
                  case rel => exact ⟨(false), (wrap64 (x41_2 + 1)), (by first | rfl | (simp; done) | (simp [*]; done)), (by first | rfl | (simp; done) | (simp [*]; done)), H', ⟨by have := HJ1.out; have := HK2.out; omega⟩, ⟨by (with_reducible repeat (first | refine ac_ ?_ _ | refine ae_ ?_ | refine ad_ ?_ _)); refine blk_far ?_ NB218_228.out _; (with_reducible repeat (first | refine ac_ ?_ _ | refine ae_ ?_ | refine ad_ ?_ _)); refine blk_far ?_ NB218_228.out _; (with_reducible repeat (first | refine ac_ ?_ _ | refine ae_ ?_ | refine ad_ ?_ _)); refine blk_far ?_ NB218_228.out _; (with_reducible repeat (first | refine ac_ ?_ _ | refine ae_ ?_ | refine ad_ ?_ _)); exact BK218.out⟩, ⟨by repeat (first | (with_reducible first | exact HB.out | apply ai_ | apply ag_ | apply ah_ | refine af_ ?_ GE218.out | refine af_ ?_ GE228.out) | exact HB.out)⟩⟩
              · rw [if_neg c31] at H
                exact absurd H (by simp)
            · rw [if_neg c30] at H
              exact absurd H (by simp)
          · rw [if_neg c29] at H
            have c29b0 : decide (x41_2 < (l0_2.length : Int)) = false := decide_eq_false c29
            clear c29
            obtain rfl := Option.some.inj H
            go_wp2
            go_ret
            exact ⟨by first | rfl | (simp [errW_none, errW_some] <;> rfl) | (simp [*, errW_none, errW_some] <;> rfl), by repeat (first | (with_reducible first | exact HB.out | apply ai_ | apply ag_ | apply ah_ | refine af_ ?_ GE218.out) | exact HB.out)⟩
end Go.Proofs.Ytgoiifpimpnlpaa.PAll

end

section
namespace Go.Proofs.Ytgoiifpimpnlpaa.PAll
open Go.RowKit Go.Proofs.YtgoiifpimpnlpaaW.PrintWords Go.Proofs.YtgoiifpimpnlpaaW.PrintLast Go.Proofs.YtgoiifpimpnlpaaW.PrintMore
attribute [local go_sem] max2_int min2_int max_two min_two max_three min_three max_four min_four   -- for this text's walks alone
set_option linter.unusedVariables false
set_option linter.unusedSimpArgs false
def spec_IsHanded.f (k : Nat) (l0 : List (S66)) : Option (Bool × Bool) := (spec_l3Tree.f k l0).bind fun bt230 => (if bt230.2.2.2 = true then ((spec_l7Is.f k bt230.1 bt230.2.1 bt230.2.2.1).bind fun t237 => (some (t237, true))) else (some (false, false)))
theorem spec_IsHanded.mono : ∀ a0 k, LeO (spec_IsHanded.f k a0) (spec_IsHanded.f (k + 1) a0) := by
  intro a0 k
  unfold spec_IsHanded.f
  repeat' first
      | (with_reducible exact spec_l3Tree.mono _ _)
      | (with_reducible exact spec_l7Is.mono _ _ _ _)
      | (with_reducible exact LeO.refl _)
      | (with_reducible exact LeO.none _)
      | (with_reducible refine LeO.ite ?_ ?_)
      | (with_reducible refine LeO.bind ?_ (fun _ => ?_))
      | exact spec_l3Tree.mono _ _
      | exact spec_l7Is.mono _ _ _ _
      | exact LeO.none _
      | refine LeO.ite ?_ ?_
      | refine LeO.bind ?_ (fun _ => ?_)
set_option maxHeartbeats 8000000 in
set_option maxRecDepth 100000 in
theorem spec_IsHanded.calls (k : Nat) (A0 : Option Addr) (c0 : Nat) (l0 : List (S66)) (r1 : Bool) (r2 : Bool) (w : World) (hr0 : Kd.C k66 w A0 l0.length l0) (hc0 : l0.length ≤ c0) (h : spec_IsHanded.f k l0 = some (r1, r2)) :
    Calls Try.prog 20 #[.slice A0 l0.length c0] w fun e w' => e = .returned (.tuple #[.bool r1, .bool r2]) ∧ Below w.heap.size w w' := by
  have hu62 := Try.underlying62
  have HR0 := ab_ hr0
  have HC0 := ab_ hc0
  clear hr0 hc0
  have HB := ab_ (Below.refl w.heap.size w)
  have H : ((spec_l3Tree.f k l0).bind fun bt230 => (if bt230.2.2.2 = true then ((spec_l7Is.f k bt230.1 bt230.2.1 bt230.2.2.1).bind fun t237 => (some (t237, true))) else (some (false, false)))) = some (r1, r2) := h
  clear h
  replace H := Option.bind_eq_some_iff.mp H
  obtain ⟨⟨t230, t231, t232, t235⟩, A20, H⟩ := H
  replace H : (if t235 = true then ((spec_l7Is.f k t230 t231 t232).bind fun t237 => (some (t237, true))) else (some (false, false))) = some (r1, r2) := H
  have A2 := ab_ A20
  clear A20
  by_cases c3 : t235 = true
  · subst c3
    have H1 : ((spec_l7Is.f k t230 t231 t232).bind fun t237 => (some (t237, true))) = some (r1, r2) := by rw [if_pos rfl] at H; exact H
    clear H
    have H := H1
    clear H1
    replace H := Option.bind_eq_some_iff.mp H
    obtain ⟨t237, A40, H⟩ := H
    replace H : (some (t237, true)) = some (r1, r2) := H
    have A4 := ab_ A40
    clear A40
    simp only [Option.some.injEq, Prod.mk.injEq] at H
    obtain ⟨rfl, rfl⟩ := H
    go_enter Try.func20, Try.ntmps20
    go_wp2_with (first | ((with_reducible refine gate_callee (f := 47) rfl ?_); refine goesL_ (some 8) rfl rfl Try.func47 (by kernel_rfl) rfl #[.slice A0 l0.length c0] rfl (by (try simp only [List.map_toArray, List.map_cons, List.map_nil]); first | done | rfl | (simp only [List.length_drop, List.length_take]; rfl)) ?_; (with_reducible refine (spec_l3Tree.calls k _ _ l0 t230 t231 t232 true _ ?side1 ?side2 A2.out).mono ?_); (case side1 => repeat (first | exact HR0.out | (with_reducible refine Kd.C_alloc ?_ _) | (with_reducible refine Kd.C_drewN ?_ _) | (with_reducible refine Kd.C_drew ?_))); (case side2 => exact HC0.out); rintro e w5 ⟨v233, rfl, ho0, hb⟩; refine ⟨_, rfl, ?_⟩; have n0_ := ab_ (Kd.R_lower ho0 (below_size (by repeat (first | (with_reducible first | exact HB.out | apply ai_ | apply ag_ | apply ah_) | exact HB.out)))); have n1_ := ab_ (ar_ (by repeat (first | (with_reducible first | exact HB.out | apply ai_ | apply ag_ | apply ah_) | exact HB.out)) hb); clear HB; have HO234 := n0_; have HB := n1_; clear n0_ n1_; (try clear hb); (try clear hb2); (try clear hk); (try clear hi); (try clear ho0)) | ((with_reducible refine gate_dst (N := 4) rfl ?_); refine box_event ?hg (N := 4) ?hd (cs := #[.int .i64 0, .int .i64 0, .slice none 0 0]) (t := 62) ?hr ?_; (case hd => rfl); (case hg => rfl); (case hr => first | (go_simp; done) | (go_simp; rfl)); intro gb236 hg w6 hbox hb; have n0_ := ab_ (Kd.R_below (Kd.R_elderB (by (with_reducible repeat (first | apply an_ | apply ao_ | apply ap_)); exact HO234.out) gb236 (Nat.le_of_eq hg.symm)) hb); have n1_ := ab_ (ar_ (by repeat (first | (with_reducible first | exact HB.out | apply ai_ | apply ag_ | apply ah_) | exact HB.out)) hb); have n2_ := ab_ (hbox); have n3_ := ab_ ((by rw [hg]; exact (below_size (by repeat (first | (with_reducible first | exact HB.out | apply ai_ | apply ag_ | apply ah_) | exact HB.out))) : w.heap.size ≤ gb236)); have n4_ := ab_ ((by rw [hg]; exact (below_size (by repeat (first | (with_reducible first | exact HB.out | apply ai_ | apply ag_ | apply ah_) | exact HB.out))) : w.heap.size ≤ gb236)); clear HO234; clear HB; have HO234 := n0_; have HB := n1_; have BK236 := n2_; have GW236 := n3_; have GE236 := n4_; clear n0_ n1_ n2_ n3_ n4_; clear hb hbox hg; have hcz7_0 : w6.cell? ⟨gb236, 0, none⟩ = some (.int .i64 0) := (am_ BK236.out 0).trans rfl; have hcz7_1 : w6.cell? ⟨gb236, 1, none⟩ = some (.int .i64 0) := (am_ BK236.out 1).trans rfl; have hcz7_2 : w6.cell? ⟨gb236, 2, none⟩ = some (.slice none 0 0) := (am_ BK236.out 2).trans rfl; have hfz7_0 := al_ BK236.out 0; have hfz7_1 := al_ BK236.out 1; have hfz7_2 := al_ BK236.out 2; obtain ⟨Ao8, co8, eo8⟩ := Kd.R_slice HO234.out; subst eo8) | ((with_reducible refine gate_callee (f := 55) rfl ?_); refine goesL_ (some 14) rfl rfl Try.func55 (by kernel_rfl) rfl #[.agg #[.int .i64 t230, .int .i64 t231, .slice Ao8 t232.length co8]] rfl (by (try simp only [List.map_toArray, List.map_cons, List.map_nil]); first | done | rfl | (simp only [List.length_drop, List.length_take]; rfl)) ?_; (with_reducible refine (spec_l7Is.calls k t230 t231 _ _ t232 t237 _ ?side1 ?side2 A4.out).mono ?_); (case side1 => refine (Kd.R_reads' (e := 62) (base := w.heap.size) (ok := fun k_ => (True ∧ k_ ≠ gb236)) (n := t232.length) (c := co8) ?_).2.2; exact (by (with_reducible repeat (first | apply an_ | apply ao_ | apply ap_)); exact (Kd.R_mono (Kd.R_far (p := ⟨gb236, 2, none⟩) (Kd.R_far (p := ⟨gb236, 1, none⟩) (Kd.R_far (p := ⟨gb236, 0, none⟩) (Kd.R_mono HO234.out (fun k_ hk => (⟨hk, hk.2⟩ : _ ∧ k_ ≠ gb236))) (fun _ hk => hk.2) (.int .i64 t230)) (fun _ hk => hk.2) (.int .i64 t231)) (fun _ hk => hk.2) (.slice Ao8 t232.length co8)) (fun _ h_ => h_.1)))); (case side2 => exact (Kd.R_reads' HO234.out).2.1); rintro e w9 ⟨rfl, hb⟩; refine ⟨_, rfl, ?_⟩; have n0_ := ab_ (Kd.R_below (by (with_reducible repeat (first | apply an_ | apply ao_ | apply ap_)); exact (Kd.R_mono (Kd.R_far (p := ⟨gb236, 2, none⟩) (Kd.R_far (p := ⟨gb236, 1, none⟩) (Kd.R_far (p := ⟨gb236, 0, none⟩) (Kd.R_mono HO234.out (fun k_ hk => (⟨hk, hk.2⟩ : _ ∧ k_ ≠ gb236))) (fun _ hk => hk.2) (.int .i64 t230)) (fun _ hk => hk.2) (.int .i64 t231)) (fun _ hk => hk.2) (.slice Ao8 t232.length co8)) (fun _ h_ => h_.1))) hb); have n1_ := ab_ (blk_below (g := gb236) (o := .cells #[.int .i64 t230, .int .i64 t231, .slice Ao8 t232.length co8] 62 (0, 0)) (by (with_reducible repeat (first | refine ac_ ?_ _ | refine ae_ ?_ | refine ad_ ?_ _)); refine blk_put (cs := #[.int .i64 t230, .int .i64 t231, .slice none 0 0]) ?_ 2 _ rfl; (with_reducible repeat (first | refine ac_ ?_ _ | refine ae_ ?_ | refine ad_ ?_ _)); refine blk_put (cs := #[.int .i64 t230, .int .i64 0, .slice none 0 0]) ?_ 1 _ rfl; (with_reducible repeat (first | refine ac_ ?_ _ | refine ae_ ?_ | refine ad_ ?_ _)); refine blk_put (cs := #[.int .i64 0, .int .i64 0, .slice none 0 0]) ?_ 0 _ rfl; (with_reducible repeat (first | refine ac_ ?_ _ | refine ae_ ?_ | refine ad_ ?_ _)); exact BK236.out) hb); have n2_ := ab_ (ar_ (by repeat (first | (with_reducible first | exact HB.out | apply ai_ | apply ag_ | apply ah_ | refine af_ ?_ GE236.out) | exact HB.out)) hb); clear HO234; clear BK236; clear HB; have HO234 := n0_; have BK236 := n1_; have HB := n2_; clear n0_ n1_ n2_; (try clear hb); (try clear hb2); (try clear hk); (try clear hi)))
    go_ret2
    exact ⟨by first | rfl | (simp [errW_none, errW_some] <;> rfl) | (simp [*, errW_none, errW_some] <;> rfl), by repeat (first | (with_reducible first | exact HB.out | apply ai_ | apply ag_ | apply ah_ | refine af_ ?_ GE236.out) | exact HB.out)⟩
  · replace c3 := Bool.eq_false_iff.mpr c3
    subst c3
    have H1 : (some (false, false)) = some (r1, r2) := by rw [if_neg (show ¬ (false = true) by decide)] at H; exact H
    clear H
    have H := H1
    clear H1
    simp only [Option.some.injEq, Prod.mk.injEq] at H
    obtain ⟨rfl, rfl⟩ := H
    go_enter Try.func20, Try.ntmps20
    go_wp2_with (first | ((with_reducible refine gate_callee (f := 47) rfl ?_); refine goesL_ (some 8) rfl rfl Try.func47 (by kernel_rfl) rfl #[.slice A0 l0.length c0] rfl (by (try simp only [List.map_toArray, List.map_cons, List.map_nil]); first | done | rfl | (simp only [List.length_drop, List.length_take]; rfl)) ?_; (with_reducible refine (spec_l3Tree.calls k _ _ l0 t230 t231 t232 false _ ?side1 ?side2 A2.out).mono ?_); (case side1 => repeat (first | exact HR0.out | (with_reducible refine Kd.C_alloc ?_ _) | (with_reducible refine Kd.C_drewN ?_ _) | (with_reducible refine Kd.C_drew ?_))); (case side2 => exact HC0.out); rintro e w10 ⟨v233, rfl, ho0, hb⟩; refine ⟨_, rfl, ?_⟩; have n0_ := ab_ (Kd.R_lower ho0 (below_size (by repeat (first | (with_reducible first | exact HB.out | apply ai_ | apply ag_ | apply ah_) | exact HB.out)))); have n1_ := ab_ (ar_ (by repeat (first | (with_reducible first | exact HB.out | apply ai_ | apply ag_ | apply ah_) | exact HB.out)) hb); clear HB; have HO234 := n0_; have HB := n1_; clear n0_ n1_; (try clear hb); (try clear hb2); (try clear hk); (try clear hi); (try clear ho0)) | ((with_reducible refine gate_dst (N := 4) rfl ?_); refine box_event ?hg (N := 4) ?hd (cs := #[.int .i64 0, .int .i64 0, .slice none 0 0]) (t := 62) ?hr ?_; (case hd => rfl); (case hg => rfl); (case hr => first | (go_simp; done) | (go_simp; rfl)); intro gb236 hg w11 hbox hb; have n0_ := ab_ (Kd.R_below (Kd.R_elderB (by (with_reducible repeat (first | apply an_ | apply ao_ | apply ap_)); exact HO234.out) gb236 (Nat.le_of_eq hg.symm)) hb); have n1_ := ab_ (ar_ (by repeat (first | (with_reducible first | exact HB.out | apply ai_ | apply ag_ | apply ah_) | exact HB.out)) hb); have n2_ := ab_ (hbox); have n3_ := ab_ ((by rw [hg]; exact (below_size (by repeat (first | (with_reducible first | exact HB.out | apply ai_ | apply ag_ | apply ah_) | exact HB.out))) : w.heap.size ≤ gb236)); have n4_ := ab_ ((by rw [hg]; exact (below_size (by repeat (first | (with_reducible first | exact HB.out | apply ai_ | apply ag_ | apply ah_) | exact HB.out))) : w.heap.size ≤ gb236)); clear HO234; clear HB; have HO234 := n0_; have HB := n1_; have BK236 := n2_; have GW236 := n3_; have GE236 := n4_; clear n0_ n1_ n2_ n3_ n4_; clear hb hbox hg; have hcz12_0 : w11.cell? ⟨gb236, 0, none⟩ = some (.int .i64 0) := (am_ BK236.out 0).trans rfl; have hcz12_1 : w11.cell? ⟨gb236, 1, none⟩ = some (.int .i64 0) := (am_ BK236.out 1).trans rfl; have hcz12_2 : w11.cell? ⟨gb236, 2, none⟩ = some (.slice none 0 0) := (am_ BK236.out 2).trans rfl; have hfz12_0 := al_ BK236.out 0; have hfz12_1 := al_ BK236.out 1; have hfz12_2 := al_ BK236.out 2; obtain ⟨Ao13, co13, eo13⟩ := Kd.R_slice HO234.out; subst eo13))
    go_ret2
    exact ⟨by first | rfl | (simp [errW_none, errW_some] <;> rfl) | (simp [*, errW_none, errW_some] <;> rfl), by repeat (first | (with_reducible first | exact HB.out | apply ai_ | apply ag_ | apply ah_ | refine af_ ?_ GE236.out) | exact HB.out)⟩
end Go.Proofs.Ytgoiifpimpnlpaa.PAll

end

section
namespace Go.Proofs.Ytgoiifpimpnlpaa.PAll
open Go.RowKit Go.Proofs.YtgoiifpimpnlpaaW.PrintWords Go.Proofs.YtgoiifpimpnlpaaW.PrintLast Go.Proofs.YtgoiifpimpnlpaaW.PrintMore
set_option linter.unusedVariables false
set_option linter.unusedSimpArgs false
theorem rd62_get (ts : List Tm) (i : Nat) (t : Tm) (h : ts[i]? = some t) : rd_T62 (tvs ts) (i : Int) = tv t := by
  simp [rd_T62, tvs_map, List.getD_eq_getElem?_getD, h]
theorem tvs_length (ts : List Tm) : (tvs ts).length = ts.length := by simp [tvs_map]
theorem tv_f (k n : Int) (ks : List Tm) : tv (.mk k n ks) = ⟨k, n, tvs ks⟩ := by simp [tv]
mutual
def Tm.nodes : Tm → Nat
  | .mk _ _ ks => 1 + nodesAll ks
def nodesAll : List Tm → Nat
  | [] => 0
  | t :: ts => t.nodes + nodesAll ts
end
theorem nodes_mk (k n : Int) (ks : List Tm) : (Tm.mk k n ks).nodes = 1 + nodesAll ks := by simp [Tm.nodes]
theorem nodes_mem {t : Tm} {ts : List Tm} (h : t ∈ ts) : t.nodes ≤ nodesAll ts := by
  induction ts with
  | nil => cases h
  | cons a ts ih =>
    simp only [nodesAll]
    rcases List.mem_cons.1 h with rfl | h
    · omega
    · have := ih h; omega
end Go.Proofs.Ytgoiifpimpnlpaa.PAll

end

section
namespace Go.Proofs.Ytgoiifpimpnlpaa.PAll
open Go.RowKit Go.Proofs.YtgoiifpimpnlpaaW.PrintWords Go.Proofs.YtgoiifpimpnlpaaW.PrintLast Go.Proofs.YtgoiifpimpnlpaaW.PrintMore
attribute [local go_sem] max2_int min2_int max_two min_two max_three min_three max_four min_four   -- for this text's walks alone
set_option linter.unusedVariables false
set_option linter.unusedSimpArgs false
mutual
def spec_l3Size.l0 : Nat → Int → List (S62) → Int → Int → Option (Int)
  | 0, _, _, _, _ => none
  | k + 1, x3, x7, x8, x9 => if x9 < x8 then (if 0 ≤ x9 then (if x9 < (x7.length : Int) then ((spec_l3Size.f k ((rd_T62 x7 x9).f0) ((rd_T62 x7 x9).f1) ((rd_T62 x7 x9).f2)).bind fun t179 => (spec_l3Size.l0 k (wrap64 (x3 + t179)) x7 x8 (wrap64 (x9 + 1)))) else (none)) else (none)) else (some x3)
def spec_l3Size.f : Nat → Int → Int → List (S62) → Option (Int)
  | 0, _, _, _ => none
  | k + 1, a0_0, a0_1, l0_2 => spec_l3Size.l0 k 1 l0_2 (l0_2.length : Int) 0
end
theorem spec_l3Size.mono_l : ∀ k, (∀ y0 y1 y2, LeO (spec_l3Size.f k y0 y1 y2) (spec_l3Size.f (k + 1) y0 y1 y2)) ∧ (∀ y0 y1 y2 y3, LeO (spec_l3Size.l0 k y0 y1 y2 y3) (spec_l3Size.l0 (k + 1) y0 y1 y2 y3))
  | 0 => ⟨fun _ _ _ r h => by simp [spec_l3Size.f] at h, fun _ _ _ _ r h => by simp [spec_l3Size.l0] at h⟩
  | k + 1 => by
    obtain ⟨ih0, ih1⟩ := spec_l3Size.mono_l k
    refine ⟨?_, ?_⟩
    · intro y0 y1 y2
      unfold spec_l3Size.f
      repeat' first
      | (with_reducible exact ih0 _ _ _)
      | (with_reducible exact ih1 _ _ _ _)
      | (with_reducible exact LeO.refl _)
      | (with_reducible exact LeO.none _)
      | (with_reducible refine LeO.ite ?_ ?_)
      | (with_reducible refine LeO.bind ?_ (fun _ => ?_))
      | exact ih0 _ _ _
      | exact ih1 _ _ _ _
      | exact LeO.none _
      | refine LeO.ite ?_ ?_
      | refine LeO.bind ?_ (fun _ => ?_)
    · intro y0 y1 y2 y3
      unfold spec_l3Size.l0
      repeat' first
      | (with_reducible exact ih0 _ _ _)
      | (with_reducible exact ih1 _ _ _ _)
      | (with_reducible exact LeO.refl _)
      | (with_reducible exact LeO.none _)
      | (with_reducible refine LeO.ite ?_ ?_)
      | (with_reducible refine LeO.bind ?_ (fun _ => ?_))
      | exact ih0 _ _ _
      | exact ih1 _ _ _ _
      | exact LeO.none _
      | refine LeO.ite ?_ ?_
      | refine LeO.bind ?_ (fun _ => ?_)
theorem spec_l3Size.mono : ∀ a0 a1 a2 k, LeO (spec_l3Size.f k a0 a1 a2) (spec_l3Size.f (k + 1) a0 a1 a2) := by
  intro a0 a1 a2 k
  obtain ⟨ih0, ih1⟩ := spec_l3Size.mono_l k
  exact ih0 a0 a1 a2
set_option maxHeartbeats 8000000 in
set_option maxRecDepth 100000 in
theorem spec_l3Size.calls (k : Nat) : ∀ (a0_0 : Int) (a0_1 : Int) (A0_2 : Option Addr) (c0_2 : Nat) (l0_2 : List (S62)) (r : Int) (w : World) (hr0_2 : Kd.C k62 w A0_2 l0_2.length l0_2) (hc0_2 : l0_2.length ≤ c0_2) (h : spec_l3Size.f k a0_0 a0_1 l0_2 = some r),
    Calls Try.prog 52 #[.agg #[.int .i64 a0_0, .int .i64 a0_1, .slice A0_2 l0_2.length c0_2]] w fun e w' => e = .returned (.int .i64 r) ∧ Below w.heap.size w w' := by
  induction k using Nat.strongRecOn with
  | _ k ih =>
  intro a0_0 a0_1 A0_2 c0_2 l0_2 r w hr0_2 hc0_2 h
  cases k with
  | zero => exact absurd h (by simp [spec_l3Size.f])
  | succ k =>
  simp only [spec_l3Size.f] at h
  have hu62 := Try.underlying62
  have HR0_2 := ab_ hr0_2
  have HC0_2 := ab_ hc0_2
  clear hr0_2 hc0_2
  have HB := ab_ (Below.refl w.heap.size w)
  have H : (spec_l3Size.l0 k 1 l0_2 (l0_2.length : Int) 0) = some r := h
  clear h
  have H' := ab_ H
  clear H
  go_enter Try.func52, Try.ntmps52
  go_wp2_with (first | ((with_reducible refine gate_dst (N := 1) rfl ?_); refine box_event ?hg (N := 1) ?hd (cs := #[.int .i64 a0_0, .int .i64 a0_1, .slice A0_2 l0_2.length c0_2]) (t := 62) ?hr ?_; (case hd => rfl); (case hg => rfl); (case hr => first | (go_simp; done) | (go_simp; rfl)); intro gb176 hg w2 hbox hb; have n0_ := ab_ (ar_ (by repeat (first | (with_reducible first | exact HB.out | apply ai_ | apply ag_ | apply ah_) | exact HB.out)) hb); have n1_ := ab_ (hbox); have n2_ := ab_ ((by rw [hg]; exact (below_size (by repeat (first | (with_reducible first | exact HB.out | apply ai_ | apply ag_ | apply ah_) | exact HB.out))) : w.heap.size ≤ gb176)); have n3_ := ab_ ((by rw [hg]; exact (below_size (by repeat (first | (with_reducible first | exact HB.out | apply ai_ | apply ag_ | apply ah_) | exact HB.out))) : w.heap.size ≤ gb176)); clear HB; have HB := n0_; have BK176 := n1_; have GW176 := n2_; have GE176 := n3_; clear n0_ n1_ n2_ n3_; clear hb hbox hg; have hcz3_0 : w2.cell? ⟨gb176, 0, none⟩ = some (.int .i64 a0_0) := (am_ BK176.out 0).trans rfl; have hcz3_1 : w2.cell? ⟨gb176, 1, none⟩ = some (.int .i64 a0_1) := (am_ BK176.out 1).trans rfl; have hcz3_2 : w2.cell? ⟨gb176, 2, none⟩ = some (.slice A0_2 l0_2.length c0_2) := (am_ BK176.out 2).trans rfl; have hfz3_0 := al_ BK176.out 0; have hfz3_1 := al_ BK176.out 1; have hfz3_2 := al_ BK176.out 2))
  go_loopg [3, 9] k (fun kq v3 v9 w' => ∃ (x3_1 : Int) (x9_1 : Int), v3 = .int .i64 x3_1 ∧ v9 = .int .i64 x9_1 ∧ Aside0 (spec_l3Size.l0 kq x3_1 l0_2 (l0_2.length : Int) x9_1 = some r) ∧ Aside0 (kq ≤ k) ∧ Aside0 (w'.heap[gb176]? = some (.cells #[.int .i64 a0_0, .int .i64 a0_1, (.slice A0_2 l0_2.length c0_2)] 62 (0, 0))) ∧ Aside0 (Below w.heap.size w w'))
  case atStart => exact ⟨(1), (0), (by first | rfl | (simp; done) | (simp [*]; done)), (by first | rfl | (simp; done) | (simp [*]; done)), H', ⟨Nat.le_refl _⟩, ⟨by (with_reducible repeat (first | refine ac_ ?_ _ | refine ae_ ?_ | refine ad_ ?_ _)); exact BK176.out⟩, ⟨by repeat (first | (with_reducible first | exact HB.out | apply ai_ | apply ag_ | apply ah_ | refine af_ ?_ GE176.out) | exact HB.out)⟩⟩
  case round =>
    clear H'
    try clear p2
    try clear hcz3_0
    try clear hcz3_1
    try clear hcz3_2
    try clear hfz3_0
    try clear hfz3_1
    try clear hfz3_2
    obtain ⟨x3_1, x9_1, rfl, rfl, HA, HK1, BK176, HB⟩ := hrel
    cases gk with
    | zero => exact absurd HA.out (by simp [spec_l3Size.l0])
    | succ k1 =>
      have H := HA.out
      clear HA
      simp only [spec_l3Size.l0] at H
      by_cases c4 : x9_1 < (l0_2.length : Int)
      · rw [if_pos c4] at H
        have c4b0 : decide (x9_1 < (l0_2.length : Int)) = true := aq_ c4
        clear c4
        by_cases c5 : 0 ≤ x9_1
        · rw [if_pos c5] at H
          have c5b0 : decide (0 ≤ x9_1) = true := aq_ c5
          clear c5
          by_cases c6 : x9_1 < (l0_2.length : Int)
          · rw [if_pos c6] at H
            have c6b0 : decide (x9_1 < (l0_2.length : Int)) = true := aq_ c6
            clear c6
            replace H := Option.bind_eq_some_iff.mp H
            obtain ⟨t179, A70, H⟩ := H
            replace H : (spec_l3Size.l0 k1 (wrap64 (x3_1 + t179)) l0_2 (l0_2.length : Int) (wrap64 (x9_1 + 1))) = some r := H
            have A7 := ab_ A70
            clear A70
            have H' := ab_ H
            clear H
            have p177 : 0 ≤ (x9_1 : Int) := of_decide_eq_true (by first | (with_reducible assumption) | assumption)
            have q177 : x9_1 < (l0_2.length : Int) := of_decide_eq_true (by first | (with_reducible assumption) | assumption)
            obtain ⟨ad177, A177_2, c177_2, e177, hx177_0, hx177_1, hx177_2, hl177_2, hi177_2⟩ := at_T62 HR0_2.out x9_1 p177 q177
            cases e177
            replace hx177_0 := (HB.out.cell (aa_ w _ hx177_0)).trans hx177_0
            replace hx177_1 := (HB.out.cell (aa_ w _ hx177_1)).trans hx177_1
            replace hx177_2 := (HB.out.cell (aa_ w _ hx177_2)).trans hx177_2
            have HR177_2 := ab_ hi177_2
            have HC177_2 := ab_ hl177_2
            clear hi177_2 hl177_2
            replace p177 := eq_true p177
            replace q177 := eq_true q177
            go_wp2_with (first | ((with_reducible refine gate_dst (N := 5) rfl ?_); refine box_event ?hg (N := 5) ?hd (cs := #[.int .i64 0, .int .i64 0, .slice none 0 0]) (t := 62) ?hr ?_; (case hd => rfl); (case hg => rfl); (case hr => first | (go_simp; done) | (go_simp; rfl)); intro gb178 hg w8 hbox hb; have n0_ := ab_ (blk_below (g := gb176) (o := .cells #[.int .i64 a0_0, .int .i64 a0_1, .slice (some ad177) l0_2.length c0_2] 62 (0, 0)) (by (with_reducible repeat (first | refine ac_ ?_ _ | refine ae_ ?_ | refine ad_ ?_ _)); exact BK176.out) hb); have n1_ := ab_ (ar_ (by repeat (first | (with_reducible first | exact HB.out | apply ai_ | apply ag_ | apply ah_ | refine af_ ?_ GE176.out) | exact HB.out)) hb); have n2_ := ab_ (hbox); have n3_ := ab_ ((by rw [hg]; exact (below_size (by repeat (first | (with_reducible first | exact HB.out | apply ai_ | apply ag_ | apply ah_ | refine af_ ?_ GE176.out) | exact HB.out))) : w.heap.size ≤ gb178)); have n4_ := ab_ ((by rw [hg]; exact (below_size (by repeat (first | (with_reducible first | exact HB.out | apply ai_ | apply ag_ | apply ah_ | refine af_ ?_ GE176.out) | exact HB.out))) : w.heap.size ≤ gb178)); have n5_ := ab_ ((by rw [hg]; exact ak_ (blk_lt (g := gb176) (o := .cells #[.int .i64 a0_0, .int .i64 a0_1, .slice (some ad177) l0_2.length c0_2] 62 (0, 0)) (by (with_reducible repeat (first | refine ac_ ?_ _ | refine ae_ ?_ | refine ad_ ?_ _)); exact BK176.out)) : gb176 ≠ gb178)); have n6_ := ab_ ((by rw [hg]; exact Nat.ne_of_gt (blk_lt (g := gb176) (o := .cells #[.int .i64 a0_0, .int .i64 a0_1, .slice (some ad177) l0_2.length c0_2] 62 (0, 0)) (by (with_reducible repeat (first | refine ac_ ?_ _ | refine ae_ ?_ | refine ad_ ?_ _)); exact BK176.out)) : gb178 ≠ gb176)); clear BK176; clear HB; have BK176 := n0_; have HB := n1_; have BK178 := n2_; have GW178 := n3_; have GE178 := n4_; have NB176_178 := n5_; have NB178_176 := n6_; clear n0_ n1_ n2_ n3_ n4_ n5_ n6_; clear hb hbox hg; have hnb9 := NB178_176.out; have hnc9 := NB176_178.out; have hcz10_0 : w8.cell? ⟨gb178, 0, none⟩ = some (.int .i64 0) := (am_ BK178.out 0).trans rfl; have hcz10_1 : w8.cell? ⟨gb178, 1, none⟩ = some (.int .i64 0) := (am_ BK178.out 1).trans rfl; have hcz10_2 : w8.cell? ⟨gb178, 2, none⟩ = some (.slice none 0 0) := (am_ BK178.out 2).trans rfl; have hfz10_0 := al_ BK178.out 0; have hfz10_1 := al_ BK178.out 1; have hfz10_2 := al_ BK178.out 2) | ((with_reducible refine gate_callee (f := 52) rfl ?_); refine goesL_ (some 15) rfl rfl Try.func52 (by kernel_rfl) rfl #[.agg #[.int .i64 ((rd_T62 l0_2 x9_1).f0), .int .i64 ((rd_T62 l0_2 x9_1).f1), .slice A177_2 ((rd_T62 l0_2 x9_1).f2).length c177_2]] rfl (by (try simp only [List.map_toArray, List.map_cons, List.map_nil]); first | done | rfl | (simp only [List.length_drop, List.length_take]; rfl)) ?_; (with_reducible refine (ih k1 (by have := HK1.out; omega) ((rd_T62 l0_2 x9_1).f0) ((rd_T62 l0_2 x9_1).f1) _ _ ((rd_T62 l0_2 x9_1).f2) t179 _ ?side1 ?side2 A7.out).mono ?_); (case side1 => exact Kd.C_below HR177_2.out (by repeat (first | (with_reducible first | exact HB.out | apply ai_ | apply ag_ | apply ah_ | refine af_ ?_ GE176.out | refine af_ ?_ GE178.out) | exact HB.out))); (case side2 => exact HC177_2.out); rintro e w11 ⟨rfl, hb⟩; refine ⟨_, rfl, ?_⟩; have n0_ := ab_ (blk_below (g := gb176) (o := .cells #[.int .i64 a0_0, .int .i64 a0_1, .slice (some ad177) l0_2.length c0_2] 62 (0, 0)) (by (with_reducible repeat (first | refine ac_ ?_ _ | refine ae_ ?_ | refine ad_ ?_ _)); refine blk_far ?_ NB176_178.out _; (with_reducible repeat (first | refine ac_ ?_ _ | refine ae_ ?_ | refine ad_ ?_ _)); refine blk_far ?_ NB176_178.out _; (with_reducible repeat (first | refine ac_ ?_ _ | refine ae_ ?_ | refine ad_ ?_ _)); refine blk_far ?_ NB176_178.out _; (with_reducible repeat (first | refine ac_ ?_ _ | refine ae_ ?_ | refine ad_ ?_ _)); exact BK176.out) hb); have n1_ := ab_ (blk_below (g := gb178) (o := .cells #[.int .i64 ((rd_T62 l0_2 x9_1).f0), .int .i64 ((rd_T62 l0_2 x9_1).f1), .slice A177_2 ((rd_T62 l0_2 x9_1).f2).length c177_2] 62 (0, 0)) (by (with_reducible repeat (first | refine ac_ ?_ _ | refine ae_ ?_ | refine ad_ ?_ _)); refine blk_put (cs := #[.int .i64 ((rd_T62 l0_2 x9_1).f0), .int .i64 ((rd_T62 l0_2 x9_1).f1), .slice none 0 0]) ?_ 2 _ rfl; (with_reducible repeat (first | refine ac_ ?_ _ | refine ae_ ?_ | refine ad_ ?_ _)); refine blk_put (cs := #[.int .i64 ((rd_T62 l0_2 x9_1).f0), .int .i64 0, .slice none 0 0]) ?_ 1 _ rfl; (with_reducible repeat (first | refine ac_ ?_ _ | refine ae_ ?_ | refine ad_ ?_ _)); refine blk_put (cs := #[.int .i64 0, .int .i64 0, .slice none 0 0]) ?_ 0 _ rfl; (with_reducible repeat (first | refine ac_ ?_ _ | refine ae_ ?_ | refine ad_ ?_ _)); exact BK178.out) hb); have n2_ := ab_ (ar_ (by repeat (first | (with_reducible first | exact HB.out | apply ai_ | apply ag_ | apply ah_ | refine af_ ?_ GE176.out | refine af_ ?_ GE178.out) | exact HB.out)) hb); clear BK176; clear BK178; clear HB; have BK176 := n0_; have BK178 := n1_; have HB := n2_; clear n0_ n1_ n2_; (try clear hb); (try clear hb2); (try clear hk); (try clear hi)))
            go_roundg k1
            case measure => have := HK1.out; omega
            case rel => exact ⟨(wrap64 (x3_1 + t179)), (wrap64 (x9_1 + 1)), (by first | rfl | (simp; done) | (simp [*]; done)), (by first | rfl | (simp; done) | (simp [*]; done)), H', ⟨by have := HK1.out; omega⟩, ⟨by (with_reducible repeat (first | refine ac_ ?_ _ | refine ae_ ?_ | refine ad_ ?_ _)); exact BK176.out⟩, ⟨by repeat (first | (with_reducible first | exact HB.out | apply ai_ | apply ag_ | apply ah_ | refine af_ ?_ GE176.out | refine af_ ?_ GE178.out) | exact HB.out)⟩⟩
          · rw [if_neg c6] at H
            exact absurd H (by simp)
        · rw [if_neg c5] at H
          exact absurd H (by simp)
      · rw [if_neg c4] at H
        have c4b0 : decide (x9_1 < (l0_2.length : Int)) = false := decide_eq_false c4
        clear c4
        obtain rfl := Option.some.inj H
        go_wp2
        go_ret
        exact ⟨by first | rfl | (simp [errW_none, errW_some] <;> rfl) | (simp [*, errW_none, errW_some] <;> rfl), by repeat (first | (with_reducible first | exact HB.out | apply ai_ | apply ag_ | apply ah_ | refine af_ ?_ GE176.out) | exact HB.out)⟩
def spec_SizeAt.j0 : Nat → List (S66) → Int → Bool → Option (Int × Bool)
  | 0, _, _, _ => none
  | k + 1, x0, x1, x20 => if x20 = true then (some (0, false)) else ((spec_l3Read.f k x0 x1).bind fun bt181 => ((spec_l3Size.f k bt181.1 bt181.2.1 bt181.2.2.1).bind fun t188 => (some (t188, true))))
def spec_SizeAt.f (k : Nat) (l0 : List (S66)) (a1 : Int) : Option (Int × Bool) := (spec_GoodTerm.f k l0).bind fun t180 => (if t180 = true then (if a1 < 0 then (spec_SizeAt.j0 k l0 a1 true) else (spec_SizeAt.j0 k l0 a1 (decide (a1 ≥ (l0.length : Int))))) else (spec_SizeAt.j0 k l0 a1 true))
theorem spec_SizeAt.mono_l : ∀ k, (∀ y0 y1 y2, LeO (spec_SizeAt.j0 k y0 y1 y2) (spec_SizeAt.j0 (k + 1) y0 y1 y2))
  | 0 => fun _ _ _ r h => by simp [spec_SizeAt.j0] at h
  | k + 1 => by
    have ih0 := spec_SizeAt.mono_l k
    · intro y0 y1 y2
      unfold spec_SizeAt.j0
      repeat' first
      | (with_reducible exact ih0 _ _ _)
      | (with_reducible exact spec_GoodTerm.mono _ _)
      | (with_reducible exact spec_l3Read.mono _ _ _)
      | (with_reducible exact spec_l3Size.mono _ _ _ _)
      | (with_reducible exact LeO.refl _)
      | (with_reducible exact LeO.none _)
      | (with_reducible refine LeO.ite ?_ ?_)
      | (with_reducible refine LeO.bind ?_ (fun _ => ?_))
      | exact ih0 _ _ _
      | exact spec_GoodTerm.mono _ _
      | exact spec_l3Read.mono _ _ _
      | exact spec_l3Size.mono _ _ _ _
      | exact LeO.none _
      | refine LeO.ite ?_ ?_
      | refine LeO.bind ?_ (fun _ => ?_)
theorem spec_SizeAt.mono : ∀ a0 a1 k, LeO (spec_SizeAt.f k a0 a1) (spec_SizeAt.f (k + 1) a0 a1) := by
  intro a0 a1 k
  have ih0 := spec_SizeAt.mono_l k
  unfold spec_SizeAt.f
  repeat' first
      | (with_reducible exact ih0 _ _ _)
      | (with_reducible exact spec_GoodTerm.mono _ _)
      | (with_reducible exact spec_l3Read.mono _ _ _)
      | (with_reducible exact spec_l3Size.mono _ _ _ _)
      | (with_reducible exact LeO.refl _)
      | (with_reducible exact LeO.none _)
      | (with_reducible refine LeO.ite ?_ ?_)
      | (with_reducible refine LeO.bind ?_ (fun _ => ?_))
      | exact ih0 _ _ _
      | exact spec_GoodTerm.mono _ _
      | exact spec_l3Read.mono _ _ _
      | exact spec_l3Size.mono _ _ _ _
      | exact LeO.none _
      | refine LeO.ite ?_ ?_
      | refine LeO.bind ?_ (fun _ => ?_)
set_option maxHeartbeats 8000000 in
set_option maxRecDepth 100000 in
theorem spec_SizeAt.calls (k : Nat) (A0 : Option Addr) (c0 : Nat) (l0 : List (S66)) (a1 : Int) (r1 : Int) (r2 : Bool) (w : World) (hr0 : Kd.C k66 w A0 l0.length l0) (hc0 : l0.length ≤ c0) (h : spec_SizeAt.f k l0 a1 = some (r1, r2)) :
    Calls Try.prog 18 #[.slice A0 l0.length c0, .int .i64 a1] w fun e w' => e = .returned (.tuple #[.int .i64 r1, .bool r2]) ∧ Below w.heap.size w w' := by
  have hu62 := Try.underlying62
  have HR0 := ab_ hr0
  have HC0 := ab_ hc0
  clear hr0 hc0
  have HB := ab_ (Below.refl w.heap.size w)
  have H : ((spec_GoodTerm.f k l0).bind fun t180 => (if t180 = true then (if a1 < 0 then (spec_SizeAt.j0 k l0 a1 true) else (spec_SizeAt.j0 k l0 a1 (decide (a1 ≥ (l0.length : Int))))) else (spec_SizeAt.j0 k l0 a1 true))) = some (r1, r2) := h
  clear h
  have HC3 := ab_ H
  clear H
  go_enter Try.func18, Try.ntmps18
  go_upto_region 1 with (fail)
  go_cut [20] (fun v20 wc => ∃ (kq : Nat) (x20_2 : Bool), v20 = .bool x20_2 ∧ Aside0 (spec_SizeAt.j0 kq l0 a1 x20_2 = some (r1, r2)) ∧ Aside0 (kq ≤ k) ∧ Aside0 (Below w.heap.size w wc))
  case first =>
    have H := HC3.out
    clear HC3
    replace H := Option.bind_eq_some_iff.mp H
    obtain ⟨t180, A40, H⟩ := H
    replace H : (if t180 = true then (if a1 < 0 then (spec_SizeAt.j0 k l0 a1 true) else (spec_SizeAt.j0 k l0 a1 (decide (a1 ≥ (l0.length : Int))))) else (spec_SizeAt.j0 k l0 a1 true)) = some (r1, r2) := H
    have A4 := ab_ A40
    clear A40
    by_cases c5 : t180 = true
    · subst c5
      have H1 : (if a1 < 0 then (spec_SizeAt.j0 k l0 a1 true) else (spec_SizeAt.j0 k l0 a1 (decide (a1 ≥ (l0.length : Int))))) = some (r1, r2) := by rw [if_pos rfl] at H; exact H
      clear H
      have H := H1
      clear H1
      by_cases c6 : a1 < 0
      · rw [if_pos c6] at H
        have c6b0 : decide (a1 < 0) = true := aq_ c6
        clear c6
        (first | rw [c6b0] | (simp only [i64_w, i32_w]; rw [c6b0]) | skip)
        have H' := ab_ H
        clear H
        go_wp2_with (first | ((with_reducible refine gate_callee (f := 14) rfl ?_); refine goesL_ (some 9) rfl rfl Try.func14 (by kernel_rfl) rfl #[.slice A0 l0.length c0] rfl (by (try simp only [List.map_toArray, List.map_cons, List.map_nil]); first | done | rfl | (simp only [List.length_drop, List.length_take]; rfl)) ?_; (with_reducible refine (spec_GoodTerm.calls k _ _ l0 true _ ?side1 ?side2 A4.out).mono ?_); (case side1 => repeat (first | exact (Kd.C_below HR0.out HB.out) | (with_reducible refine Kd.C_alloc ?_ _) | (with_reducible refine Kd.C_drewN ?_ _) | (with_reducible refine Kd.C_drew ?_))); (case side2 => exact HC0.out); rintro e w7 ⟨rfl, hb⟩; refine ⟨_, rfl, ?_⟩; have n0_ := ab_ (ar_ (by repeat (first | (with_reducible first | exact HB.out | apply ai_ | apply ag_ | apply ah_) | exact HB.out)) hb); clear HB; have HB := n0_; clear n0_; (try clear hb); (try clear hb2); (try clear hk); (try clear hi)))
        go_meet
        case rel => exact ⟨_, (true), (by first | rfl | (simp; done) | (simp [*]; done)), H', ⟨by first | omega | exact Nat.le_refl _⟩, ⟨by repeat (first | (with_reducible first | exact HB.out | apply ai_ | apply ag_ | apply ah_) | exact HB.out)⟩⟩
      · rw [if_neg c6] at H
        have c6b0 : decide (a1 < 0) = false := decide_eq_false c6
        clear c6
        (first | rw [c6b0] | (simp only [i64_w, i32_w]; rw [c6b0]) | skip)
        have H' := ab_ H
        clear H
        go_wp2_with (first | ((with_reducible refine gate_callee (f := 14) rfl ?_); refine goesL_ (some 9) rfl rfl Try.func14 (by kernel_rfl) rfl #[.slice A0 l0.length c0] rfl (by (try simp only [List.map_toArray, List.map_cons, List.map_nil]); first | done | rfl | (simp only [List.length_drop, List.length_take]; rfl)) ?_; (with_reducible refine (spec_GoodTerm.calls k _ _ l0 true _ ?side1 ?side2 A4.out).mono ?_); (case side1 => repeat (first | exact (Kd.C_below HR0.out HB.out) | (with_reducible refine Kd.C_alloc ?_ _) | (with_reducible refine Kd.C_drewN ?_ _) | (with_reducible refine Kd.C_drew ?_))); (case side2 => exact HC0.out); rintro e w8 ⟨rfl, hb⟩; refine ⟨_, rfl, ?_⟩; have n0_ := ab_ (ar_ (by repeat (first | (with_reducible first | exact HB.out | apply ai_ | apply ag_ | apply ah_) | exact HB.out)) hb); clear HB; have HB := n0_; clear n0_; (try clear hb); (try clear hb2); (try clear hk); (try clear hi)))
        go_meet
        case rel => exact ⟨_, (decide (a1 ≥ (l0.length : Int))), (by first | rfl | (simp; done) | (simp [*]; done)), H', ⟨by first | omega | exact Nat.le_refl _⟩, ⟨by repeat (first | (with_reducible first | exact HB.out | apply ai_ | apply ag_ | apply ah_) | exact HB.out)⟩⟩
    · replace c5 := Bool.eq_false_iff.mpr c5
      subst c5
      have H1 : (spec_SizeAt.j0 k l0 a1 true) = some (r1, r2) := by rw [if_neg (show ¬ (false = true) by decide)] at H; exact H
      clear H
      have H := H1
      clear H1
      have H' := ab_ H
      clear H
      go_wp2_with (first | ((with_reducible refine gate_callee (f := 14) rfl ?_); refine goesL_ (some 9) rfl rfl Try.func14 (by kernel_rfl) rfl #[.slice A0 l0.length c0] rfl (by (try simp only [List.map_toArray, List.map_cons, List.map_nil]); first | done | rfl | (simp only [List.length_drop, List.length_take]; rfl)) ?_; (with_reducible refine (spec_GoodTerm.calls k _ _ l0 false _ ?side1 ?side2 A4.out).mono ?_); (case side1 => repeat (first | exact (Kd.C_below HR0.out HB.out) | (with_reducible refine Kd.C_alloc ?_ _) | (with_reducible refine Kd.C_drewN ?_ _) | (with_reducible refine Kd.C_drew ?_))); (case side2 => exact HC0.out); rintro e w9 ⟨rfl, hb⟩; refine ⟨_, rfl, ?_⟩; have n0_ := ab_ (ar_ (by repeat (first | (with_reducible first | exact HB.out | apply ai_ | apply ag_ | apply ah_) | exact HB.out)) hb); clear HB; have HB := n0_; clear n0_; (try clear hb); (try clear hb2); (try clear hk); (try clear hi)))
      go_meet
      case rel => exact ⟨_, (true), (by first | rfl | (simp; done) | (simp [*]; done)), H', ⟨by first | omega | exact Nat.le_refl _⟩, ⟨by repeat (first | (with_reducible first | exact HB.out | apply ai_ | apply ag_ | apply ah_) | exact HB.out)⟩⟩
  case rest =>
    clear HC3
    try clear c1
    try clear p2
    try clear c5
    try clear c6
    try clear c6b0
    obtain ⟨kq, x20_2, rfl, HA, HJ2, HB⟩ := hcut
    cases kq with
    | zero => exact absurd HA.out (by simp [spec_SizeAt.j0])
    | succ kj2 =>
      have H := HA.out
      clear HA
      simp only [spec_SizeAt.j0] at H
      by_cases c10 : x20_2 = true
      · subst c10
        have H1 : (some (0, false)) = some (r1, r2) := by rw [if_pos rfl] at H; exact H
        clear H
        have H := H1
        clear H1
        simp only [Option.some.injEq, Prod.mk.injEq] at H
        obtain ⟨rfl, rfl⟩ := H
        go_wp2
        go_ret2
        exact ⟨by first | rfl | (simp [errW_none, errW_some] <;> rfl) | (simp [*, errW_none, errW_some] <;> rfl), by repeat (first | (with_reducible first | exact HB.out | apply ai_ | apply ag_ | apply ah_) | exact HB.out)⟩
      · replace c10 := Bool.eq_false_iff.mpr c10
        subst c10
        have H1 : ((spec_l3Read.f kj2 l0 a1).bind fun bt181 => ((spec_l3Size.f kj2 bt181.1 bt181.2.1 bt181.2.2.1).bind fun t188 => (some (t188, true)))) = some (r1, r2) := by rw [if_neg (show ¬ (false = true) by decide)] at H; exact H
        clear H
        have H := H1
        clear H1
        replace H := Option.bind_eq_some_iff.mp H
        obtain ⟨⟨t181, t182, t183, t186⟩, A110, H⟩ := H
        replace H : ((spec_l3Size.f kj2 t181 t182 t183).bind fun t188 => (some (t188, true))) = some (r1, r2) := H
        have A11 := ab_ A110
        clear A110
        replace H := Option.bind_eq_some_iff.mp H
        obtain ⟨t188, A120, H⟩ := H
        replace H : (some (t188, true)) = some (r1, r2) := H
        have A12 := ab_ A120
        clear A120
        simp only [Option.some.injEq, Prod.mk.injEq] at H
        obtain ⟨rfl, rfl⟩ := H
        go_wp2_with (first | ((with_reducible refine gate_callee (f := 51) rfl ?_); refine goesL_ (some 24) rfl rfl Try.func51 (by kernel_rfl) rfl #[.slice A0 l0.length c0, .int .i64 a1] rfl (by (try simp only [List.map_toArray, List.map_cons, List.map_nil]); first | done | rfl | (simp only [List.length_drop, List.length_take]; rfl)) ?_; (with_reducible refine (spec_l3Read.calls kj2 _ _ l0 a1 t181 t182 t183 t186 _ ?side1 ?side2 A11.out).mono ?_); (case side1 => repeat (first | exact (Kd.C_below HR0.out HB.out) | (with_reducible refine Kd.C_alloc ?_ _) | (with_reducible refine Kd.C_drewN ?_ _) | (with_reducible refine Kd.C_drew ?_))); (case side2 => exact HC0.out); rintro e w13 ⟨v184, rfl, ho0, hb⟩; refine ⟨_, rfl, ?_⟩; have n0_ := ab_ (Kd.R_lower ho0 (below_size (by repeat (first | (with_reducible first | exact HB.out | apply ai_ | apply ag_ | apply ah_) | exact HB.out)))); have n1_ := ab_ (ar_ (by repeat (first | (with_reducible first | exact HB.out | apply ai_ | apply ag_ | apply ah_) | exact HB.out)) hb); clear HB; have HO185 := n0_; have HB := n1_; clear n0_ n1_; (try clear hb); (try clear hb2); (try clear hk); (try clear hi); (try clear ho0)) | ((with_reducible refine gate_dst (N := 6) rfl ?_); (try (refine gate_guard (by rfl) ?_; dsimp only)); refine box_event ?hg (N := 6) ?hd (cs := #[.int .i64 0, .int .i64 0, .slice none 0 0]) (t := 62) ?hr ?_; (case hd => rfl); (case hg => rfl); (case hr => first | (go_simp; done) | (go_simp; rfl)); intro gb187 hg w14 hbox hb; have n0_ := ab_ (Kd.R_below (Kd.R_elderB (by (with_reducible repeat (first | apply an_ | apply ao_ | apply ap_)); exact HO185.out) gb187 (Nat.le_of_eq hg.symm)) hb); have n1_ := ab_ (ar_ (by repeat (first | (with_reducible first | exact HB.out | apply ai_ | apply ag_ | apply ah_) | exact HB.out)) hb); have n2_ := ab_ (hbox); have n3_ := ab_ ((by rw [hg]; exact (below_size (by repeat (first | (with_reducible first | exact HB.out | apply ai_ | apply ag_ | apply ah_) | exact HB.out))) : w.heap.size ≤ gb187)); have n4_ := ab_ ((by rw [hg]; exact (below_size (by repeat (first | (with_reducible first | exact HB.out | apply ai_ | apply ag_ | apply ah_) | exact HB.out))) : w.heap.size ≤ gb187)); clear HO185; clear HB; have HO185 := n0_; have HB := n1_; have BK187 := n2_; have GW187 := n3_; have GE187 := n4_; clear n0_ n1_ n2_ n3_ n4_; clear hb hbox hg; have hcz15_0 : w14.cell? ⟨gb187, 0, none⟩ = some (.int .i64 0) := (am_ BK187.out 0).trans rfl; have hcz15_1 : w14.cell? ⟨gb187, 1, none⟩ = some (.int .i64 0) := (am_ BK187.out 1).trans rfl; have hcz15_2 : w14.cell? ⟨gb187, 2, none⟩ = some (.slice none 0 0) := (am_ BK187.out 2).trans rfl; have hfz15_0 := al_ BK187.out 0; have hfz15_1 := al_ BK187.out 1; have hfz15_2 := al_ BK187.out 2; obtain ⟨Ao16, co16, eo16⟩ := Kd.R_slice HO185.out; subst eo16) | ((with_reducible refine gate_callee (f := 52) rfl ?_); refine goesL_ (some 28) rfl rfl Try.func52 (by kernel_rfl) rfl #[.agg #[.int .i64 t181, .int .i64 t182, .slice Ao16 t183.length co16]] rfl (by (try simp only [List.map_toArray, List.map_cons, List.map_nil]); first | done | rfl | (simp only [List.length_drop, List.length_take]; rfl)) ?_; (with_reducible refine (spec_l3Size.calls kj2 t181 t182 _ _ t183 t188 _ ?side1 ?side2 A12.out).mono ?_); (case side1 => refine (Kd.R_reads' (e := 62) (base := w.heap.size) (ok := fun k_ => (True ∧ k_ ≠ gb187)) (n := t183.length) (c := co16) ?_).2.2; exact (by (with_reducible repeat (first | apply an_ | apply ao_ | apply ap_)); exact (Kd.R_mono (Kd.R_far (p := ⟨gb187, 2, none⟩) (Kd.R_far (p := ⟨gb187, 1, none⟩) (Kd.R_far (p := ⟨gb187, 0, none⟩) (Kd.R_mono HO185.out (fun k_ hk => (⟨hk, hk.2⟩ : _ ∧ k_ ≠ gb187))) (fun _ hk => hk.2) (.int .i64 t181)) (fun _ hk => hk.2) (.int .i64 t182)) (fun _ hk => hk.2) (.slice Ao16 t183.length co16)) (fun _ h_ => h_.1)))); (case side2 => exact (Kd.R_reads' HO185.out).2.1); rintro e w17 ⟨rfl, hb⟩; refine ⟨_, rfl, ?_⟩; have n0_ := ab_ (Kd.R_below (by (with_reducible repeat (first | apply an_ | apply ao_ | apply ap_)); exact (Kd.R_mono (Kd.R_far (p := ⟨gb187, 2, none⟩) (Kd.R_far (p := ⟨gb187, 1, none⟩) (Kd.R_far (p := ⟨gb187, 0, none⟩) (Kd.R_mono HO185.out (fun k_ hk => (⟨hk, hk.2⟩ : _ ∧ k_ ≠ gb187))) (fun _ hk => hk.2) (.int .i64 t181)) (fun _ hk => hk.2) (.int .i64 t182)) (fun _ hk => hk.2) (.slice Ao16 t183.length co16)) (fun _ h_ => h_.1))) hb); have n1_ := ab_ (blk_below (g := gb187) (o := .cells #[.int .i64 t181, .int .i64 t182, .slice Ao16 t183.length co16] 62 (0, 0)) (by (with_reducible repeat (first | refine ac_ ?_ _ | refine ae_ ?_ | refine ad_ ?_ _)); refine blk_put (cs := #[.int .i64 t181, .int .i64 t182, .slice none 0 0]) ?_ 2 _ rfl; (with_reducible repeat (first | refine ac_ ?_ _ | refine ae_ ?_ | refine ad_ ?_ _)); refine blk_put (cs := #[.int .i64 t181, .int .i64 0, .slice none 0 0]) ?_ 1 _ rfl; (with_reducible repeat (first | refine ac_ ?_ _ | refine ae_ ?_ | refine ad_ ?_ _)); refine blk_put (cs := #[.int .i64 0, .int .i64 0, .slice none 0 0]) ?_ 0 _ rfl; (with_reducible repeat (first | refine ac_ ?_ _ | refine ae_ ?_ | refine ad_ ?_ _)); exact BK187.out) hb); have n2_ := ab_ (ar_ (by repeat (first | (with_reducible first | exact HB.out | apply ai_ | apply ag_ | apply ah_ | refine af_ ?_ GE187.out) | exact HB.out)) hb); clear HO185; clear BK187; clear HB; have HO185 := n0_; have BK187 := n1_; have HB := n2_; clear n0_ n1_ n2_; (try clear hb); (try clear hb2); (try clear hk); (try clear hi)))
        go_ret2
        exact ⟨by first | rfl | (simp [errW_none, errW_some] <;> rfl) | (simp [*, errW_none, errW_some] <;> rfl), by repeat (first | (with_reducible first | exact HB.out | apply ai_ | apply ag_ | apply ah_ | refine af_ ?_ GE187.out) | exact HB.out)⟩
end Go.Proofs.Ytgoiifpimpnlpaa.PAll

end

section
namespace Go.Proofs.Ytgoiifpimpnlpaa.PAll
open Go.RowKit Go.Proofs.YtgoiifpimpnlpaaW.PrintWords Go.Proofs.YtgoiifpimpnlpaaW.PrintLast Go.Proofs.YtgoiifpimpnlpaaW.PrintMore
set_option linter.unusedVariables false
set_option linter.unusedSimpArgs false
theorem nodesAll_drop (ks : List Tm) (i : Nat) (t : Tm) (h : ks[i]? = some t) : nodesAll (ks.drop i) = t.nodes + nodesAll (ks.drop (i + 1)) := by
  have hlt : i < ks.length := by
    rcases Nat.lt_or_ge i ks.length with h' | h'
    · exact h'
    · rw [List.getElem?_eq_none h'] at h; cases h
  rw [List.drop_eq_getElem_cons hlt]
  have : ks[i] = t := by rw [List.getElem?_eq_getElem hlt] at h; exact Option.some.inj h
  rw [this]
  simp [nodesAll]
theorem sizeLoop_eq (ks : List Tm) (hks : ks.length ≤ 3) (hn6 : nodesAll ks ≤ 1000000) (ih : ∀ t ∈ ks, t.wf → t.nodes ≤ 1000000 → ∀ k, 10 * t.nodes ≤ k → spec_l3Size.f k (tv t).f0 (tv t).f1 (tv t).f2 = some (t.nodes : Int)) (hws : wfs ks) :
    ∀ (d i : Nat) (b : Nat) (k : Nat), i + d = ks.length → b ≤ 1000001 → d + 10 * nodesAll ks + 1 ≤ k → b + nodesAll (ks.drop i) ≤ 1000001 → spec_l3Size.l0 k (b : Int) (tvs ks) (ks.length : Int) (i : Int) = some ((b + nodesAll (ks.drop i) : Nat) : Int) := by
  intro d
  induction d with
  | zero =>
    intro i b k hi hb hk hbn
    obtain ⟨k, rfl⟩ : ∃ m, k = m + 1 := ⟨k - 1, by omega⟩
    simp only [spec_l3Size.l0]
    rw [if_neg (by omega), List.drop_eq_nil_of_le (by omega)]
    simp [nodesAll]
  | succ d ihd =>
    intro i b k hi hb hk hbn
    obtain ⟨k, rfl⟩ : ∃ m, k = m + 1 := ⟨k - 1, by omega⟩
    have hlt : i < ks.length := by omega
    have hg : ks[i]? = some ks[i] := by simp [hlt]
    have hmem : ks[i] ∈ ks := List.getElem_mem hlt
    have hn := nodes_mem hmem
    have hd := nodesAll_drop ks i _ hg
    rw [hd] at hbn
    simp only [spec_l3Size.l0]
    rw [if_pos (by omega), if_pos (by omega), tvs_length, if_pos (by omega), rd62_get ks i _ hg, ih _ hmem (wfs_get hws _ hmem) (by omega) k (by omega), wrap_id (x := (i : Int) + 1) (by omega) (by omega), hd, Option.bind_some, wrap_id (by omega) (by omega)]
    have e : (i : Int) + 1 = ((i + 1 : Nat) : Int) := by omega
    have e2 : (b : Int) + (ks[i].nodes : Int) = ((b + ks[i].nodes : Nat) : Int) := by omega
    rw [e, e2, ihd (i + 1) _ k (by omega) (by omega) (by omega) (by omega)]
    congr 1
    omega
theorem l3Size_eq (t : Tm) : t.wf → t.nodes ≤ 1000000 → ∀ k, 10 * t.nodes ≤ k → spec_l3Size.f k (tv t).f0 (tv t).f1 (tv t).f2 = some (t.nodes : Int) := by
  induction t using Tm.ind with
  | h k n ks ih =>
    intro hwf h6 q hq
    simp only [Tm.wf] at hwf
    have hkl : ks.length ≤ 3 := by have := arI_bd k; omega
    rw [nodes_mk] at hq h6
    obtain ⟨q, rfl⟩ : ∃ m, q = m + 1 := ⟨q - 1, by omega⟩
    rw [tv_f, nodes_mk]
    simp only [spec_l3Size.f]
    have L := sizeLoop_eq ks hkl (by omega) ih hwf.2 ks.length 0 1 q (by omega) (by omega) (by omega) (by simp; omega)
    rw [tvs_length]
    simpa using L
end Go.Proofs.Ytgoiifpimpnlpaa.PAll

end

section
namespace Go.Proofs.Ytgoiifpimpnlpaa.PAll
open Go.RowKit Go.Proofs.YtgoiifpimpnlpaaW.PrintWords Go.Proofs.YtgoiifpimpnlpaaW.PrintLast Go.Proofs.YtgoiifpimpnlpaaW.PrintMore
set_option linter.unusedVariables false
set_option linter.unusedSimpArgs false
mutual
def tcells : Tm → List S66
  | .mk k n ks => ⟨k, n⟩ :: lcells ks
def lcells : List Tm → List S66
  | [] => []
  | t :: ts => tcells t ++ lcells ts
end
mutual
def Tm.cnt : Tm → Nat
  | .mk _ _ ks => 1 + cnts ks
def cnts : List Tm → Nat
  | [] => 0
  | t :: ts => t.cnt + cnts ts
end
theorem cnt_mk (k n : Int) (ks : List Tm) : (Tm.mk k n ks).cnt = 1 + cnts ks := by simp [Tm.cnt]
theorem cnt_pos (t : Tm) : 1 ≤ t.cnt := by cases t; rw [cnt_mk]; omega
theorem cnt_mem {t : Tm} {ts : List Tm} (h : t ∈ ts) : t.cnt ≤ cnts ts := by
  induction ts with
  | nil => cases h
  | cons a ts ih =>
    simp only [cnts]
    rcases List.mem_cons.1 h with rfl | h
    · omega
    · have := ih h; omega
theorem tcells_mk (k n : Int) (ks : List Tm) : tcells (.mk k n ks) = ⟨k, n⟩ :: lcells ks := by simp [tcells]
theorem Tm.ind2 {P : Tm → Prop} {Q : List Tm → Prop} (h : ∀ k n ks, Q ks → P (.mk k n ks)) (h0 : Q []) (h1 : ∀ t ts, P t → Q ts → Q (t :: ts)) : (∀ t, P t) ∧ ∀ ts, Q ts := by
  have hP : ∀ t, P t := fun t => Tm.rec (motive_1 := P) (motive_2 := Q) h h0 h1 t
  exact ⟨hP, fun ts => by
    induction ts with
    | nil => exact h0
    | cons t ts ih => exact h1 t ts (hP t) ih⟩
theorem tcells_len (t : Tm) : (tcells t).length = t.cnt := by
  refine (Tm.ind2 (P := fun t => (tcells t).length = t.cnt) (Q := fun ts => (lcells ts).length = cnts ts) ?_ (by simp [lcells, cnts]) ?_).1 t
  · intro k n ks h; simp [tcells, Tm.cnt, h]; omega
  · intro t ts h1 h2; simp [lcells, cnts, h1, h2]
theorem lcells_len (ts : List Tm) : (lcells ts).length = cnts ts := by
  induction ts with
  | nil => simp [lcells, cnts]
  | cons t ts ih => simp [lcells, cnts, ih, tcells_len]
theorem lcells_append (a b : List Tm) : lcells (a ++ b) = lcells a ++ lcells b := by
  induction a with
  | nil => simp [lcells]
  | cons t ts ih => simp [lcells, ih]
theorem size_cnt (t : Tm) : t.cnt ≤ 1000000 → t.size = (t.cnt : Int) := by
  refine (Tm.ind2 (P := fun t => t.cnt ≤ 1000000 → t.size = (t.cnt : Int)) (Q := fun ts => cnts ts ≤ 1000000 → sizes ts = (cnts ts : Int)) ?_ (by simp [sizes, cnts]) ?_).1 t
  · intro k n ks h hc
    rw [cnt_mk] at hc ⊢
    simp only [Tm.size]
    rw [h (by omega)]
    unfold cap
    rw [if_neg (by omega)]
    omega
  · intro t ts h1 h2 hc
    simp only [cnts] at hc ⊢
    simp only [sizes]
    rw [h1 (by omega), h2 (by omega)]
    omega
theorem size_cnt_le (t : Tm) (n : Nat) (hn : n < 1000000) : t.size ≤ (n : Int) ↔ t.cnt ≤ n := by
  have key : (t.cnt : Int) ≤ t.size ∨ (1000000 : Int) ≤ t.size := by
    refine (Tm.ind2 (P := fun t => (t.cnt : Int) ≤ t.size ∨ (1000000 : Int) ≤ t.size) (Q := fun ts => (cnts ts : Int) ≤ sizes ts ∨ (1000000 : Int) ≤ sizes ts) ?_ (by simp [sizes, cnts]) ?_).1 t
    · intro k m ks h
      rw [cnt_mk]
      simp only [Tm.size, cap]
      split
      · right; omega
      · omega
    · intro t ts h1 h2
      have := t.size_bd
      have := (sizes_bd ts).1
      simp only [cnts, sizes]
      omega
  constructor
  · intro h
    omega
  · intro h
    rw [size_cnt t (by omega)]
    omega
def bindsI (k : Int) (i : Nat) : Int := if k = 3 then 1 else if k = 7 ∧ i = 1 then 1 else 0
theorem bindsI_bd (k : Int) (i : Nat) : 0 ≤ bindsI k i ∧ bindsI k i ≤ 1 := by unfold bindsI; split <;> (try split) <;> omega
mutual
/-- Another term in the place of each variable: f gets its number and how many are bound around it. -/
def chg (f : Int → Int → Tm) : Tm → Int → Tm
  | .mk k n ks, b => if k = 1 then f n b else .mk k n (chgs f k 0 ks b)
def chgs (f : Int → Int → Tm) (k : Int) : Nat → List Tm → Int → List Tm
  | _, [], _ => []
  | i, t :: ts, b => chg f t (b + bindsI k i) :: chgs f k (i + 1) ts b
end
theorem chg_mk (f : Int → Int → Tm) (k n : Int) (ks : List Tm) (b : Int) : chg f (.mk k n ks) b = if k = 1 then f n b else .mk k n (chgs f k 0 ks b) := by simp [chg]
theorem chgs_len (f : Int → Int → Tm) (k : Int) (b : Int) : ∀ (ts : List Tm) (i : Nat), (chgs f k i ts b).length = ts.length
  | [], i => by simp [chgs]
  | t :: ts, i => by simp [chgs, chgs_len f k b ts (i + 1)]
theorem chgs_take_succ (f : Int → Int → Tm) (k : Int) (b : Int) : ∀ (ts : List Tm) (s i : Nat) (t : Tm), ts[i]? = some t → chgs f k s (ts.take (i + 1)) b = chgs f k s (ts.take i) b ++ [chg f t (b + bindsI k (s + i))]
  | [], s, i, t, h => by simp at h
  | a :: ts, s, 0, t, h => by simp at h; subst h; simp [chgs]
  | a :: ts, s, i + 1, t, h => by
    simp only [List.getElem?_cons_succ] at h
    simp only [List.take_succ_cons, chgs, List.cons_append]
    rw [chgs_take_succ f k b ts (s + 1) i t h, show s + 1 + i = s + (i + 1) by omega]
def tvar (n : Int) : Tm := .mk 1 n []
def shF (by_ fr n b : Int) : Tm := if n - b < fr then tvar n else tvar (n + by_)
def tshift (by_ fr : Int) (t : Tm) : Tm := if by_ = 0 then t else chg (shF by_ fr) t 0
def sbF (k : Int) (s : Tm) (n b : Int) : Tm := if n - b = k then tshift b 0 s else if n - b > k then tvar (n - 1) else tvar n
def tsubst (k : Int) (s t : Tm) : Tm := chg (sbF k s) t 0
mutual
/-- Variables are numbers up to B, everywhere. -/
def Tm.vb (B : Int) : Tm → Prop
  | .mk k n ks => (k = 1 → 0 ≤ n ∧ n ≤ B) ∧ vbs B ks
def vbs (B : Int) : List Tm → Prop
  | [] => True
  | t :: ts => t.vb B ∧ vbs B ts
end
theorem vb_mk (B k n : Int) (ks : List Tm) : (Tm.mk k n ks).vb B ↔ (k = 1 → 0 ≤ n ∧ n ≤ B) ∧ vbs B ks := by simp [Tm.vb]
theorem vbs_get {B : Int} {ts : List Tm} (h : vbs B ts) : ∀ t ∈ ts, t.vb B := by
  induction ts with
  | nil => intro t ht; cases ht
  | cons a ts ih =>
    simp only [vbs] at h
    intro t ht
    rcases List.mem_cons.1 ht with rfl | ht
    · exact h.1
    · exact ih h.2 t ht
theorem chg_wf1 {f : Int → Int → Tm} (hf : ∀ n b, (f n b).wf) (t : Tm) : ∀ b, t.wf → (chg f t b).wf := by
  refine (Tm.ind2 (P := fun t => ∀ b, t.wf → (chg f t b).wf) (Q := fun ts => ∀ k i b, wfs ts → wfs (chgs f k i ts b)) ?_ ?_ ?_).1 t
  · intro k n ks h b hw
    simp only [Tm.wf] at hw
    rw [chg_mk]
    by_cases h1 : k = 1
    · rw [if_pos h1]; exact hf n b
    · rw [if_neg h1]
      simp only [Tm.wf]
      rw [chgs_len]
      exact ⟨hw.1, h k 0 b hw.2⟩
  · intro k i b _; simp [chgs, wfs]
  · intro t ts h1 h2 k i b hw
    simp only [wfs] at hw
    simp only [chgs, wfs]
    exact ⟨h1 _ hw.1, h2 _ _ _ hw.2⟩
theorem tvar_wf (n : Int) : (tvar n).wf := by simp [tvar, Tm.wf, wfs, arI]
theorem shift_wf (by_ fr : Int) (t : Tm) (hw : t.wf) : (tshift by_ fr t).wf := by
  unfold tshift
  split
  · exact hw
  · refine chg_wf1 ?_ t 0 hw
    intro n b; unfold shF; split <;> exact tvar_wf _
theorem chg_wf {k : Int} (s : Tm) (hs : s.wf) (t : Tm) (hw : t.wf) : (tsubst k s t).wf := by
  refine chg_wf1 ?_ t 0 hw
  intro n b
  unfold sbF
  split
  · exact shift_wf _ _ _ hs
  · split <;> exact tvar_wf _
theorem chg_cnt {f : Int → Int → Tm} (hf : ∀ n b, (f n b).cnt = 1) (t : Tm) : ∀ b, t.wf → (chg f t b).cnt = t.cnt := by
  refine (Tm.ind2 (P := fun t => ∀ b, t.wf → (chg f t b).cnt = t.cnt) (Q := fun ts => ∀ k i b, wfs ts → cnts (chgs f k i ts b) = cnts ts) ?_ ?_ ?_).1 t
  · intro k n ks h b hw
    simp only [Tm.wf] at hw
    rw [chg_mk]
    by_cases h1 : k = 1
    · rw [if_pos h1, hf, cnt_mk]
      have : ks = [] := by rw [h1] at hw; simp [arI] at hw; exact List.length_eq_zero_iff.1 (by have := hw.1; omega)
      rw [this]; rfl
    · rw [if_neg h1, cnt_mk, cnt_mk, h k 0 b hw.2]
  · intro k i b _; simp [chgs]
  · intro t ts h1 h2 k i b hw
    simp only [wfs] at hw
    simp only [chgs, cnts]
    rw [h1 _ hw.1, h2 _ _ _ hw.2]
theorem shift_cnt (by_ fr : Int) (t : Tm) (hw : t.wf) : (tshift by_ fr t).cnt = t.cnt := by
  unfold tshift
  split
  · rfl
  · refine chg_cnt ?_ t 0 hw
    intro n b; unfold shF tvar; split <;> simp [Tm.cnt, cnts]
mutual
/-- How often a variable is used. -/
def uses : Tm → Int → Nat
  | .mk k n ks, v => if k = 1 then (if n = v then 1 else 0) else usesAll k 0 ks v
def usesAll (k : Int) : Nat → List Tm → Int → Nat
  | _, [], _ => 0
  | i, t :: ts, v => uses t (v + bindsI k i) + usesAll k (i + 1) ts v
end
theorem uses_mk (k n : Int) (ks : List Tm) (v : Int) : uses (.mk k n ks) v = if k = 1 then (if n = v then 1 else 0) else usesAll k 0 ks v := by simp [uses]
theorem subst_cnt (k : Int) (s : Tm) (hs : s.wf) (t : Tm) : ∀ b, t.wf → (chg (sbF k s) t b).cnt = t.cnt + uses t (k + b) * (s.cnt - 1) := by
  refine (Tm.ind2 (P := fun t => ∀ b, t.wf → (chg (sbF k s) t b).cnt = t.cnt + uses t (k + b) * (s.cnt - 1)) (Q := fun ts => ∀ q i b, wfs ts → cnts (chgs (sbF k s) q i ts b) = cnts ts + usesAll q i ts (k + b) * (s.cnt - 1)) ?_ ?_ ?_).1 t
  · intro q n ks h b hw
    simp only [Tm.wf] at hw
    rw [chg_mk, uses_mk]
    by_cases h1 : q = 1
    · have hn : ks = [] := by rw [h1] at hw; simp [arI] at hw; exact List.length_eq_zero_iff.1 (by have := hw.1; omega)
      rw [if_pos h1, if_pos h1, hn, cnt_mk]
      have := cnt_pos s
      unfold sbF
      by_cases e : n - b = k
      · rw [if_pos e, if_pos (by omega), shift_cnt _ _ _ hs]
        simp [cnts]; omega
      · rw [if_neg e, if_neg (show ¬ n = k + b by omega)]
        split <;> simp [tvar, Tm.cnt, cnts]
    · rw [if_neg h1, if_neg h1, cnt_mk, cnt_mk, h q 0 b hw.2]
      omega
  · intro q i b _; simp [chgs, cnts, usesAll]
  · intro t ts h1 h2 q i b hw
    simp only [wfs] at hw
    simp only [chgs, cnts, usesAll]
    rw [h1 _ hw.1, h2 _ _ _ hw.2, Nat.add_mul, show k + (b + bindsI q i) = k + b + bindsI q i by omega]
    omega
theorem uses_le (t : Tm) : ∀ v, uses t v ≤ t.cnt := by
  refine (Tm.ind2 (P := fun t => ∀ v, uses t v ≤ t.cnt) (Q := fun ts => ∀ k i v, usesAll k i ts v ≤ cnts ts) ?_ ?_ ?_).1 t
  · intro k n ks h v
    rw [uses_mk, cnt_mk]
    split
    · split <;> omega
    · have := h k 0 v; omega
  · intro k i v; simp [usesAll]
  · intro t ts h1 h2 k i v
    simp only [usesAll, cnts]
    have := h1 (v + bindsI k i)
    have := h2 k (i + 1) v
    omega
def goodOfT (t : Tm) : List S66 × Bool := if t.cnt ≤ 600 then (if (tcells t).all cellB = true then (tcells t, true) else ([], false)) else ([], false)
theorem mparse_cells (t : Tm) : ∀ (k : Nat) (r : List S66), t.wf → t.cnt ≤ k → mparse k (tcells t ++ r) = if (tcells t).all cellB = true then some (t, r) else none := by
  refine (Tm.ind2 (P := fun t => ∀ (k : Nat) (r : List S66), t.wf → t.cnt ≤ k → mparse k (tcells t ++ r) = if (tcells t).all cellB = true then some (t, r) else none)
    (Q := fun ts => ∀ (k : Nat) (r : List S66), wfs ts → cnts ts ≤ k → mkids (mparse k) ts.length (lcells ts ++ r) = if (lcells ts).all cellB = true then some (ts, r) else none) ?_ ?_ ?_).1 t
  · intro q n ks h k r hw hk
    simp only [Tm.wf] at hw
    rw [cnt_mk] at hk
    obtain ⟨k, rfl⟩ : ∃ m, k = m + 1 := ⟨k - 1, by omega⟩
    rw [tcells_mk, List.cons_append, List.all_cons]
    simp only [mparse]
    by_cases hb : cellB ⟨q, n⟩ = true
    · rw [if_pos hb]
      rw [hw.1, Int.toNat_natCast, h k r hw.2 (by omega), hb, Bool.true_and]
      cases (lcells ks).all cellB <;> simp
    · rw [if_neg hb, if_neg]
      rw [Bool.and_eq_true]
      exact fun x => hb x.1
  · intro k r _ _; simp [lcells, mkids]
  · intro t ts h1 h2 k r hw hk
    simp only [wfs] at hw
    simp only [cnts] at hk
    have := cnt_pos t
    rw [lcells, List.length_cons, List.append_assoc, List.all_append]
    simp only [mkids]
    rw [h1 k _ hw.1 (by omega)]
    cases (tcells t).all cellB with
    | false => simp
    | true =>
      simp only [if_true, Bool.true_and]
      rw [h2 k r hw.2 (by omega)]
      cases (lcells ts).all cellB <;> simp
theorem tmof_cells (t : Tm) (hw : t.wf) : tmof (tcells t) = if t.cnt ≤ 600 ∧ (tcells t).all cellB = true then some t else none := by
  unfold tmof
  rw [tcells_len]
  by_cases h : t.cnt ≤ 600
  · have := mparse_cells t 601 [] hw (by omega)
    rw [List.append_nil] at this
    rw [if_pos h, this]
    cases (tcells t).all cellB <;> simp [h]
  · rw [if_neg h, if_neg (fun x => h x.1)]
theorem goodOfT_tmof (t : Tm) (hw : t.wf) : goodOfT t = if (tmof (tcells t)).isSome = true then (tcells t, true) else ([], false) := by
  rw [tmof_cells t hw]
  unfold goodOfT
  by_cases h : t.cnt ≤ 600
  · rw [if_pos h]
    cases (tcells t).all cellB <;> simp [h]
  · rw [if_neg h, if_neg (fun x : t.cnt ≤ 600 ∧ (tcells t).all cellB = true => h x.1)]; simp
theorem mkids_vb {f : List S66 → Option (Tm × List S66)} (hf : ∀ l t r, f l = some (t, r) → t.vb 99 ∧ t.cnt + r.length = l.length) : ∀ m l ts r, mkids f m l = some (ts, r) → vbs 99 ts ∧ cnts ts + r.length = l.length := by
  intro m
  induction m with
  | zero => intro l ts r h; simp [mkids] at h; obtain ⟨rfl, rfl⟩ := h; simp [vbs, cnts]
  | succ m ih =>
    intro l ts r h
    simp only [mkids] at h
    cases h1 : f l with
    | none => rw [h1] at h; simp at h
    | some p =>
      obtain ⟨t, r1⟩ := p
      rw [h1] at h
      simp only at h
      cases h2 : mkids f m r1 with
      | none => rw [h2] at h; simp at h
      | some q =>
        obtain ⟨ts', r2⟩ := q
        rw [h2] at h
        simp at h
        obtain ⟨rfl, rfl⟩ := h
        have a := hf _ _ _ h1
        have b := ih _ _ _ h2
        simp only [vbs, cnts]
        exact ⟨⟨a.1, b.1⟩, by omega⟩
theorem mparse_vb : ∀ (k : Nat) (l : List S66) (t : Tm) (r : List S66), mparse k l = some (t, r) → t.vb 99 ∧ t.cnt + r.length = l.length := by
  intro k
  induction k with
  | zero => intro l t r h; simp [mparse] at h
  | succ k ih =>
    intro l t r h
    cases l with
    | nil => simp [mparse] at h
    | cons x l =>
      simp only [mparse] at h
      split at h
      · rename_i hb
        cases h1 : mkids (mparse k) (arI x.f0).toNat l with
        | none => rw [h1] at h; simp at h
        | some p =>
          obtain ⟨ts, r1⟩ := p
          rw [h1] at h
          simp at h
          obtain ⟨rfl, rfl⟩ := h
          have a := mkids_vb ih _ _ _ _ h1
          rw [vb_mk, cnt_mk, List.length_cons]
          refine ⟨⟨fun e => ?_, a.1⟩, by omega⟩
          unfold cellB at hb
          rw [if_pos e] at hb
          simpa using hb
      · simp at h
theorem tmof_vb {l : List S66} {t : Tm} (h : tmof l = some t) : t.vb 99 ∧ t.cnt ≤ 600 := by
  unfold tmof at h
  split at h
  · split at h
    · rename_i h0 _ _ h1
      injection h with h
      subst h
      have := mparse_vb _ _ _ _ h1
      exact ⟨this.1, by have := this.2; simp at this; omega⟩
    · cases h
  · cases h
end Go.Proofs.Ytgoiifpimpnlpaa.PAll

end

section
namespace Go.Proofs.Ytgoiifpimpnlpaa.PAll
open Go.RowKit Go.Proofs.YtgoiifpimpnlpaaW.PrintWords Go.Proofs.YtgoiifpimpnlpaaW.PrintLast Go.Proofs.YtgoiifpimpnlpaaW.PrintMore
set_option linter.unusedVariables false
set_option linter.unusedSimpArgs false
theorem kept_cell {w W : World} {S : Nat → Prop} (h : Kept w W S) {p : Addr} (hn : ¬ S p.block) (hlt : p.block < w.heap.size) : W.cell? p = w.cell? p := by
  simp [World.cell?, h.2 _ hlt hn]
theorem kept_get62 {w : World} {S : Nat → Prop} {A : Option Addr} {n : Nat} {xs : List S62} (h : ∀ W, Kept w W S → Kd.C k62 W A n xs) (i : Int) (h0 : 0 ≤ i) (h1 : i < n) :
    ∃ ad A2 c2, A = some ad ∧ (∀ W, Kept w W S → W.cell? (ad.add (i.toNat * 3)) = some (.int .i64 (rd_T62 xs i).f0) ∧ W.cell? ⟨(ad.add (i.toNat * 3)).block, (ad.add (i.toNat * 3)).off + 1, none⟩ = some (.int .i64 (rd_T62 xs i).f1) ∧ W.cell? ⟨(ad.add (i.toNat * 3)).block, (ad.add (i.toNat * 3)).off + 2, none⟩ = some (.slice A2 (rd_T62 xs i).f2.length c2)) ∧ (rd_T62 xs i).f2.length ≤ c2 ∧ ∀ W, Kept w W S → Kd.C k62 W A2 (rd_T62 xs i).f2.length (rd_T62 xs i).f2 := by
  obtain ⟨ad, A2, c2, rfl, p0, p1, p2, l2, g2⟩ := at_T62 (h w (Kept.refl w S)) i h0 h1
  have hn : ¬ S (ad.add (i.toNat * 3)).block := by
    intro hs
    have hk : Kept w (w.setCell ⟨(ad.add (i.toNat * 3)).block, (ad.add (i.toNat * 3)).off + 1, none⟩ (.pointer none)) S := Kept.setCell (p := ⟨(ad.add (i.toNat * 3)).block, (ad.add (i.toNat * 3)).off + 1, none⟩) (Kept.refl w S) (.inl hs) _
    obtain ⟨ad', A2', c2', he, q0, q1, q2, _⟩ := at_T62 (h _ hk) i h0 h1
    injection he with he
    subst he
    have := World.cell?_setCell_same' w ⟨(ad.add (i.toNat * 3)).block, (ad.add (i.toNat * 3)).off + 1, none⟩ (.pointer none) (by rw [p1]; rfl)
    rw [this] at q1
    cases q1
  have hlt := aa_ w _ p0
  refine ⟨ad, A2, c2, rfl, fun W hW => ⟨(kept_cell hW hn hlt).trans p0, (kept_cell hW (p := ⟨(ad.add (i.toNat * 3)).block, (ad.add (i.toNat * 3)).off + 1, none⟩) hn hlt).trans p1, (kept_cell hW (p := ⟨(ad.add (i.toNat * 3)).block, (ad.add (i.toNat * 3)).off + 2, none⟩) hn hlt).trans p2⟩, l2, fun W hW => ?_⟩
  obtain ⟨ad', A2', c2', he, q0, q1, q2, l2', g2'⟩ := at_T62 (h W hW) i h0 h1
  injection he with he
  subst he
  rw [(kept_cell hW (p := ⟨(ad.add (i.toNat * 3)).block, (ad.add (i.toNat * 3)).off + 2, none⟩) hn hlt).trans p2] at q2
  injection q2 with q2
  injection q2 with qa _ _
  rw [qa]
  exact g2'
theorem info66f : (Try.prog.info? 66).map (fun i => (i.zero, i.size, i.bytes)) = some (some (.agg #[(.int .i64 0), (.int .i64 0)]), 2, 16) := by kernel_rfl
def l3fl (f : Int → Int → List S62 → List S66 → Option (List S66)) : List S62 → List S66 → Option (List S66)
  | [], out => some out
  | x :: l, out => (f x.f0 x.f1 x.f2 out).bind (l3fl f l)
def l3flat : Nat → Int → Int → List S62 → List S66 → Option (List S66)
  | 0, _, _, _, _ => none
  | k + 1, a0, n, l, out => if out.length < 8796093022208 then (if l.length ≤ 1000 then l3fl (l3flat k) l (out ++ [⟨a0, n⟩]) else none) else none
def LFPost (w0 w : World) (P1_ : Nat → Prop) (r : List S66) (e : Ending) (w' : World) : Prop := ∃ v0_ : Value, e = .returned (v0_) ∧ Kd.R k66 66 w' w0.heap.size (fun k_ => (P1_ k_ ∨ w.heap.size ≤ k_)) v0_ r ∧ Below w0.heap.size w0 w' ∧ Kept w w' (fun k_ => P1_ k_)
def FlSt (k : Nat) (l : List S62) (r : List S66) (w0 wb : World) (Q : Nat → Prop) (i : Nat) (wr : World) (v : Value) : Prop :=
  ∃ out, Kd.R k66 66 wr w0.heap.size Q v out ∧ Below w0.heap.size w0 wr ∧ Kept wb wr Q ∧ l3fl (l3flat k) (l.drop i) out = some r
theorem rd62_drop (l : List S62) (i : Nat) (h : i < l.length) : l.drop i = rd_T62 l (i : Int) :: l.drop (i + 1) := by
  rw [List.drop_eq_getElem_cons h]; simp [rd_T62, List.getD_eq_getElem?_getD, List.getElem?_eq_getElem h]
def FlIH (k : Nat) : Prop := ∀ (a0_0 : Int) (a0_1 : Int) (A0_2 : Option Addr) (c0_2 : Nat) (l0_2 : List (S62)) (P1_ : Nat → Prop) (u9000_ : Value) (l1 : List S66) (r : List S66) (w0 w : World), Below w0.heap.size w0 w → (∀ W_, Kept w W_ (fun k_ => P1_ k_) → Kd.C k62 W_ A0_2 l0_2.length l0_2) → l0_2.length ≤ c0_2 → Kd.R k66 66 w w0.heap.size P1_ u9000_ l1 → l3flat k a0_0 a0_1 l0_2 l1 = some r →
    Calls Try.prog 101 #[.agg #[.int .i64 a0_0, .int .i64 a0_1, .slice A0_2 l0_2.length c0_2], u9000_] w (LFPost w0 w P1_ r)
theorem fl_call {k : Nat} {l : List S62} {r : List S66} {w0 wb wr W : World} {Q : Nat → Prop} {i : Nat} {v : Value} {X : Option Addr} {cx : Nat} (ih : FlIH k) (hst : FlSt k l r w0 wb Q i wr v) (hi : i < l.length)
    (hQ : ∀ k, wb.heap.size ≤ k → Q k) (lx : (rd_T62 l (i : Int)).f2.length ≤ cx) (gx : ∀ W, Kept wb W Q → Kd.C k62 W X (rd_T62 l (i : Int)).f2.length (rd_T62 l (i : Int)).f2) (hb : Below wr.heap.size wr W) :
    Calls Try.prog 101 #[.agg #[.int .i64 (rd_T62 l (i : Int)).f0, .int .i64 (rd_T62 l (i : Int)).f1, .slice X (rd_T62 l (i : Int)).f2.length cx], v] W fun e w' => ∃ v2, e = .returned v2 ∧ FlSt k l r w0 wb Q (i + 1) w' v2 := by
  obtain ⟨out, hR, hB, hK, h⟩ := hst
  rw [rd62_drop l i hi] at h
  simp only [l3fl] at h
  obtain ⟨t, h1, h2⟩ := Option.bind_eq_some_iff.mp h
  have hKW : Kept wb W Q := hK.below hb
  refine (ih _ _ X cx _ Q v out t w0 W (ar_ hB hb) (fun W' hW' => gx W' (hKW.then_ hW' (fun k hk => .inl hk))) lx (Kd.R_below hR hb) h1).mono ?_
  rintro e w' ⟨v2, rfl, hR2, hB2, hK2⟩
  exact ⟨v2, rfl, t, Kd.R_mono hR2 (fun k hk => hk.elim id (fun hk => hQ k (Nat.le_trans hKW.1 hk))), hB2, hKW.then_ hK2 (fun k hk => .inl hk), h2⟩
set_option maxHeartbeats 8000000 in
set_option maxRecDepth 100000 in
theorem l3flat_calls (k : Nat) : FlIH k := by
  induction k with
  | zero => intro a0_0 a0_1 A0_2 c0_2 l0_2 P1_ u9000_ l1 r w0 w _ _ _ _ h; simp [l3flat] at h
  | succ k ih =>
    intro a0_0 a0_1 A0_2 c0_2 l0_2 P1_ u9000_ l1 r w0 w hB hr0_2 hc0_2 ho1 h
    simp only [l3flat] at h
    by_cases c3 : l1.length < 8796093022208
    · rw [if_pos c3] at h
      have LMc3 := ab_ c3
      clear c3
      have HR0_2 := ab_ hr0_2
      have HC0_2 := hc0_2
      clear hr0_2 hc0_2
      have HO1 := ab_ (show Kd.R k66 66 w w0.heap.size (fun k_ => (P1_ k_ ∧ k_ < w.heap.size)) u9000_ l1 from Kd.R_mono (Kd.R_bound ho1) (fun k_ hk => ⟨hk.1, hk.2.2.1⟩))
      have HB := ab_ hB
      clear hB ho1
      have IH := Lib.hid ih
      clear ih
      unfold LFPost
      have hlen : l0_2.length ≤ 1000 := by
        split at h
        · assumption
        · cases h
      rw [if_pos hlen] at h
      have H := Lib.hid h
      clear h
      go_enter Try.func101, Try.ntmps101
      go_wp2_with (first
        | ((with_reducible refine gate_dst (N := 2) rfl ?_); refine box_event ?hg (N := 2) ?hd (cs := #[.int .i64 a0_0, .int .i64 a0_1, .slice A0_2 l0_2.length c0_2]) (t := 62) ?hr ?_; (case hd => rfl); (case hg => rfl); (case hr => first | (go_simp; done) | (go_simp; rfl)); intro gb hg w4 hbox hb; have K4 := Lib.hid (Kept.of_below hb (fun k_ => P1_ k_)); have B4 := Lib.hid hb; have HG := Lib.hid hg; have HX := Lib.hid hbox; have HB4 := Lib.hid (ar_ HB.out (show Below w.heap.size w w4 from hb)); have c0 : w4.cell? ⟨gb, 0, none⟩ = some (.int .i64 a0_0) := (am_ hbox 0).trans rfl; have c1 : w4.cell? ⟨gb, 1, none⟩ = some (.int .i64 a0_1) := (am_ hbox 1).trans rfl; clear hb hg hbox)
        | ((with_reducible refine gate_builtin (b := .append) (xs := #[.tmp 7, .tmp 13]) rfl ?_); at_builtin; refine Kd.R_append k66 (w0 := w0) w0.heap.size rfl (.tmp 7) (.tmp 13) 25 66 (.agg #[(.int .i64 0), (.int .i64 0)]) 16 rfl Try.underlying25 info66f rfl (by decide) (by omega) u9000_ l1 (⟨a0_0, a0_1⟩ : S66) [.int .i64 a0_0, .int .i64 a0_1] (fun k_ => (P1_ k_ ∧ k_ < w.heap.size) ∨ w4.heap.size ≤ k_) (fun _ => False) rfl rfl ?aP (fun _ hk => hk.elim) ?aF ?aO ?aB ?aS ?aL ?_; (case aP => exact k66_mkM _ _ _ (⟨a0_0, a0_1⟩ : S66)); (case aB => exact HB4.out); (case aF => exact fun k_ hk => .inr hk); (case aO => exact Kd.R_mono (Kd.R_below HO1.out B4.out) (fun k hk => .inl hk)); (case aS => exact HB4.out.size); (case aL => have := LMc3.out; omega); intro v457 w6 ho hb hg hat; have hne : ¬ ((P1_ gb ∧ gb < w.heap.size) ∨ w4.heap.size ≤ gb) := (by have := HG.out; have := blk_lt HX.out; rintro (h | h) <;> omega); have HKK := Lib.hid (Kept.of_grown (S := (fun k_ => (P1_ k_ ∧ k_ < w.heap.size) ∨ w4.heap.size ≤ k_)) hg (Kept.refl w4 _) (fun k_ e_ => .inl (.inl (HO1.out.1 k_ e_)))); have c26 : w6.cell? ⟨gb, 2, none⟩ = some (.slice A0_2 l0_2.length c0_2) := (kept_cell HKK.out (p := ⟨gb, 2, none⟩) hne (blk_lt HX.out)).trans ((am_ HX.out 2).trans rfl); have HST := Lib.hid (show FlSt k l0_2 r w0 w4 (fun k_ => (P1_ k_ ∧ k_ < w.heap.size) ∨ w4.heap.size ≤ k_) 0 w6 v457 from ⟨_, ho, hb, HKK.out, by simpa using H.out⟩); clear ho hb hg hat hne))
      have KB := Lib.hid (show ∀ W, Kept w4 W (fun k_ => (P1_ k_ ∧ k_ < w.heap.size) ∨ w4.heap.size ≤ k_) → Kept w W (fun k_ => P1_ k_) from fun W hW => K4.out.then_ hW (fun k hk => hk.elim (fun h => .inl h.1) (fun h => .inr (Nat.le_trans K4.out.1 h))))
      clear c0 c1
      go_loopw [1, 6, 18] (fun v1 v6 v18 wr => ∃ i : Nat, i ≤ l0_2.length ∧ v18 = .int .i64 i ∧ FlSt k l0_2 r w0 w4 (fun k_ => (P1_ k_ ∧ k_ < w.heap.size) ∨ w4.heap.size ≤ k_) i wr v1) (fun _ _ v18 _ => l0_2.length - (intOf v18).toNat)
      case atStart => exact ⟨0, Nat.zero_le _, rfl, HST.out⟩
      case round =>
        obtain ⟨i, hi, rfl, hst⟩ := hrel
        clear c26 HST
        have HST := Lib.hid hst
        clear hst
        by_cases hlt : i < l0_2.length
        · obtain ⟨ad, X, cx, hA, fx, lx, gx⟩ := kept_get62 HR0_2.out (i : Int) (by omega) (by omega)
          subst hA
          obtain ⟨out, _, _, hK, _⟩ := HST.out
          have fx' := fx _ (KB.out _ hK)
          obtain ⟨f0, f1, f2⟩ := fx'
          have GX := Lib.hid (show ∀ W, Kept w4 W (fun k_ => (P1_ k_ ∧ k_ < w.heap.size) ∨ w4.heap.size ≤ k_) → Kd.C k62 W X (rd_T62 l0_2 (i : Int)).f2.length (rd_T62 l0_2 (i : Int)).f2 from fun W hW => gx W (KB.out W hW))
          rw [Int.toNat_natCast] at f0 f1 f2
          clear fx gx hK
          go_wp2_with fail
          (refine (fl_call IH.out HST.out hlt (fun k hk => .inr hk) lx GX.out (ai_ (Below.refl _ _) _)).mono ?_; rintro e w' ⟨v2, rfl, hst⟩; have HST2 := Lib.hid hst; clear hst)
          go_wp2
          go_roundw
          case rel => exact ⟨i + 1, by omega, by go_num, HST2.out⟩
          case measure => simp [intOf]; omega
        · obtain rfl : i = l0_2.length := by omega
          go_wp2
          go_ret
          obtain ⟨out, hR, hB', hK, hh⟩ := HST.out
          rw [List.drop_eq_nil_of_le (Nat.le_refl _)] at hh
          obtain rfl := Option.some.inj hh
          exact ⟨_, rfl, Kd.R_mono hR (fun k hk => hk.elim (fun h => .inl h.1) (fun h => .inr (Nat.le_trans K4.out.1 h))), hB', KB.out _ hK⟩
    · rw [if_neg c3] at h; cases h
end Go.Proofs.Ytgoiifpimpnlpaa.PAll

end
