/- Terms as trees in memory: what a pointer to one is, and how that stays. -/
import Derived.Test.YtgoiifpimpnlpaaDoorPAllx0
import Derived.Lib.Hide
namespace Go.Proofs.YtgoiifpimpnlpaaDoor.PAll
open Go.RowKit Go.Proofs.YtgoiifpimpnlpaaDoorW.PrintWords Go.Proofs.YtgoiifpimpnlpaaDoorW.PrintLast Go.Proofs.YtgoiifpimpnlpaaDoorW.PrintMore
set_option linter.unusedVariables false
set_option linter.unusedSimpArgs false

inductive Tm where
  | mk (kind n : Int) (kids : List Tm)

theorem Tm.ind {P : Tm → Prop} (h : ∀ k n ks, (∀ t ∈ ks, P t) → P (.mk k n ks)) : ∀ t, P t := by
  intro t
  refine Tm.rec (motive_1 := P) (motive_2 := fun ks => ∀ t ∈ ks, P t) (fun k n ks ih => h k n ks ih) (fun t ht => by cases ht) (fun t ks ht hks x hx => ?_) t
  rcases List.mem_cons.1 hx with rfl | hx
  · exact ht
  · exact hks x hx

def cap (x : Int) : Int := if 1000000 < x then 1000000 else x

mutual
def Tm.size : Tm → Int
  | .mk _ _ ks => cap (1 + sizes ks)
def sizes : List Tm → Int
  | [] => 0
  | t :: ts => t.size + sizes ts
end

theorem Tm.size_bd (t : Tm) : 1 ≤ t.size ∧ t.size ≤ 1000000 := by
  refine Tm.rec (motive_1 := fun t => 1 ≤ t.size ∧ t.size ≤ 1000000) (motive_2 := fun ks => 0 ≤ sizes ks) (fun k n ks ih => ?_) (by simp [sizes]) (fun t ks ht hks => ?_) t
  · simp only [Tm.size, cap]; split <;> omega
  · simp only [sizes]; omega

theorem sizes_bd (ks : List Tm) : 0 ≤ sizes ks ∧ sizes ks ≤ 1000000 * ks.length := by
  induction ks with
  | nil => simp [sizes]
  | cons t ts ih => have := t.size_bd; simp only [sizes, List.length_cons]; omega

theorem sizes_append (a b : List Tm) : sizes (a ++ b) = sizes a + sizes b := by
  induction a with
  | nil => simp [sizes]
  | cons t ts ih => simp only [List.cons_append, sizes, ih]; omega

def ptr (g : Nat) : Value := .pointer (some ⟨g, 0, none⟩)

/-- A row that is read: its cells are these pointers, in blocks of S. -/
def PtrRow (S : Nat → Prop) (w : World) (A : Option Addr) (gs : List Nat) : Prop :=
  ∀ i p, gs[i]? = some p → ∃ ad, A = some ad ∧ S ad.block ∧ w.cell? (ad.add i) = some (ptr p)

mutual
/-- The pointer to block g leads to the term; all its blocks are in S. -/
def TAt (S : Nat → Prop) (w : World) : Nat → Tm → Prop
  | g, .mk k n ks => ∃ A c gs, S g ∧ ks.length ≤ c ∧ w.heap[g]? = some (.cells #[.int .i64 k, .int .i64 n, .slice A ks.length c, .int .i64 (Tm.mk k n ks).size] 123 (0, 0)) ∧ PtrRow S w A gs ∧ LAt S w gs ks
def LAt (S : Nat → Prop) (w : World) : List Nat → List Tm → Prop
  | [], [] => True
  | g :: gs, t :: ts => TAt S w g t ∧ LAt S w gs ts
  | _, _ => False
end

theorem LAt.length {S : Nat → Prop} {w : World} : ∀ {gs : List Nat} {ts : List Tm}, LAt S w gs ts → gs.length = ts.length
  | [], [], _ => rfl
  | g :: gs, t :: ts, h => by simp only [LAt] at h; simp [LAt.length h.2]
  | [], _ :: _, h => by simp [LAt] at h
  | _ :: _, [], h => by simp [LAt] at h

theorem LAt.get {S : Nat → Prop} {w : World} : ∀ {gs : List Nat} {ts : List Tm} {i : Nat} {t : Tm}, LAt S w gs ts → ts[i]? = some t → ∃ g, gs[i]? = some g ∧ TAt S w g t
  | g :: gs, t :: ts, 0, u, h, e => by simp only [LAt] at h; simp at e; subst e; exact ⟨g, rfl, h.1⟩
  | g :: gs, t :: ts, i + 1, u, h, e => by simp only [LAt] at h; simp only [List.getElem?_cons_succ] at e ⊢; exact LAt.get h.2 e
  | [], [], i, u, h, e => by simp at e
  | [], _ :: _, _, _, h, _ => by simp [LAt] at h
  | _ :: _, [], _, _, h, _ => by simp [LAt] at h

theorem LAt.snoc {S : Nat → Prop} {w : World} : ∀ {gs : List Nat} {ts : List Tm} {g : Nat} {t : Tm}, LAt S w gs ts → TAt S w g t → LAt S w (gs ++ [g]) (ts ++ [t])
  | [], [], g, t, _, h => by simp only [List.nil_append, LAt]; exact ⟨h, trivial⟩
  | g0 :: gs, t0 :: ts, g, t, h0, h => by simp only [LAt] at h0; simp only [List.cons_append, LAt]; exact ⟨h0.1, LAt.snoc h0.2 h⟩
  | [], _ :: _, _, _, h, _ => by simp [LAt] at h
  | _ :: _, [], _, _, h, _ => by simp [LAt] at h

theorem PtrRow.step {S S' : Nat → Prop} {w w1 : World} {A : Option Addr} {gs : List Nat} (h : PtrRow S w A gs) (hm : ∀ k, S k → k < w.heap.size → w1.heap[k]? = w.heap[k]?) (hS : ∀ k, S k → k < w.heap.size → S' k) : PtrRow S' w1 A gs := by
  intro i p hp
  obtain ⟨ad, e, hs, hc⟩ := h i p hp
  have hlt : (ad.add i).block < w.heap.size := World.block_lt_of_cell? w _ hc
  have eb : (ad.add i).block = ad.block := by unfold Addr.add; split <;> simp_all
  rw [eb] at hlt
  refine ⟨ad, e, hS _ hs hlt, ?_⟩
  have := hm _ hs hlt
  have e2 : w1.cell? (ad.add i) = w.cell? (ad.add i) := by simp [World.cell?, eb, this]
  rw [e2]; exact hc

/-- What is in S and was there stays: so does the term. -/
theorem TAt.step {S S' : Nat → Prop} {w w1 : World} (hm : ∀ k, S k → k < w.heap.size → w1.heap[k]? = w.heap[k]?) (hS : ∀ k, S k → k < w.heap.size → S' k) : ∀ {t : Tm} {g : Nat}, TAt S w g t → TAt S' w1 g t := by
  intro t
  refine Tm.rec (motive_1 := fun t => ∀ {g : Nat}, TAt S w g t → TAt S' w1 g t) (motive_2 := fun ts => ∀ {gs : List Nat}, LAt S w gs ts → LAt S' w1 gs ts) (fun k n ks ih => ?_) ?_ (fun t ts ht hts => ?_) t
  · intro g h
    simp only [TAt] at h ⊢
    obtain ⟨A, c, gs, hg, hc, hh, hr, hl⟩ := h
    exact ⟨A, c, gs, hS _ hg (blk_lt hh), hc, (hm _ hg (blk_lt hh)).trans hh, hr.step hm hS, ih hl⟩
  · intro gs h
    cases gs with
    | nil => simp [LAt]
    | cons => simp [LAt] at h
  · intro gs h
    cases gs with
    | nil => simp [LAt] at h
    | cons g gs => simp only [LAt] at h ⊢; exact ⟨ht h.1, hts h.2⟩
theorem LAt.step {S S' : Nat → Prop} {w w1 : World} (hm : ∀ k, S k → k < w.heap.size → w1.heap[k]? = w.heap[k]?) (hS : ∀ k, S k → k < w.heap.size → S' k) : ∀ {ts : List Tm} {gs : List Nat}, LAt S w gs ts → LAt S' w1 gs ts
  | [], [], _ => by simp [LAt]
  | t :: ts, g :: gs, h => by simp only [LAt] at h ⊢; exact ⟨TAt.step hm hS h.1, LAt.step hm hS h.2⟩
  | [], _ :: _, h => by simp [LAt] at h
  | _ :: _, [], h => by simp [LAt] at h

theorem TAt.below {S : Nat → Prop} {w w1 : World} {t : Tm} {g : Nat} (h : TAt S w g t) (hb : Below w.heap.size w w1) : TAt S w1 g t := TAt.step (fun k _ hk => hb.block k hk) (fun _ h _ => h) h
theorem LAt.below {S : Nat → Prop} {w w1 : World} {ts : List Tm} {gs : List Nat} (h : LAt S w gs ts) (hb : Below w.heap.size w w1) : LAt S w1 gs ts := LAt.step (fun k _ hk => hb.block k hk) (fun _ h _ => h) h
theorem PtrRow.below {S : Nat → Prop} {w w1 : World} {A : Option Addr} {gs : List Nat} (h : PtrRow S w A gs) (hb : Below w.heap.size w w1) : PtrRow S w1 A gs := h.step (fun k _ hk => hb.block k hk) (fun _ h _ => h)

theorem TAt.cells {S : Nat → Prop} {w : World} {g : Nat} {k n : Int} {ks : List Tm} (h : TAt S w g (.mk k n ks)) : ∃ A c gs, ks.length ≤ c ∧ w.cell? ⟨g, 0, none⟩ = some (.int .i64 k) ∧ w.cell? ⟨g, 1, none⟩ = some (.int .i64 n) ∧ w.cell? ⟨g, 2, none⟩ = some (.slice A ks.length c) ∧ w.cell? ⟨g, 3, none⟩ = some (.int .i64 (Tm.mk k n ks).size) ∧ PtrRow S w A gs ∧ LAt S w gs ks := by
  simp only [TAt] at h
  obtain ⟨A, c, gs, hg, hc, hh, hr, hl⟩ := h
  exact ⟨A, c, gs, hc, (blk_cell hh 0).trans rfl, (blk_cell hh 1).trans rfl, (blk_cell hh 2).trans rfl, (blk_cell hh 3).trans rfl, hr, hl⟩
theorem TAt.size_cell {S : Nat → Prop} {w : World} {g : Nat} {t : Tm} (h : TAt S w g t) : w.cell? ⟨g, 3, none⟩ = some (.int .i64 t.size) := by
  cases t with | mk k n ks => obtain ⟨A, c, gs, _, _, _, _, h3, _⟩ := h.cells; exact h3

set_option maxRecDepth 100000 in
set_option maxHeartbeats 1000000 in
theorem newTerm_calls (S : Nat → Prop) (k n : Int) (ts : List Tm) (A : Option Addr) (c : Nat) (gs : List Nat) (w : World) (hn : ts.length ≤ 1000) (hc : ts.length ≤ c) (hr : PtrRow S w A gs) (hl : LAt S w gs ts) (hS : ∀ k, w.heap.size ≤ k → S k) :
    Calls Tryd.prog 79 #[.int .i64 k, .int .i64 n, .slice A ts.length c] w fun e w' => ∃ g, e = .returned (ptr g) ∧ w.heap.size ≤ g ∧ TAt S w' g (.mk k n ts) ∧ Below w.heap.size w w' := by
  have HR := Lib.hid hr
  have HL := Lib.hid hl
  clear hr hl
  go_enter Tryd.func79, Tryd.ntmps79
  go_wp2
  go_loopw [7, 9, 12] (fun v7 v9 v12 wr => ∃ i : Nat, i ≤ ts.length ∧ v12 = .int .i64 i ∧ v7 = .int .i64 (1 + sizes (ts.take i)) ∧ wr = w) (fun _ _ v12 _ => ts.length - (intOf v12).toNat)
  case atStart => exact ⟨0, Nat.zero_le _, rfl, by simp [sizes], rfl⟩
  case round =>
    obtain ⟨i, hi, rfl, rfl, rfl⟩ := hrel
    by_cases hlt : i < ts.length
    · obtain ⟨t, ht⟩ : ∃ t, ts[i]? = some t := ⟨ts[i], by simp [hlt]⟩
      obtain ⟨g, hg, hT⟩ := LAt.get HL.out ht
      obtain ⟨ad, rfl, hSa, hcell⟩ := HR.out i g hg
      have hsz := hT.size_cell
      have hbd := t.size_bd
      have hsb := sizes_bd (ts.take i)
      have htl : (ts.take i).length ≤ 1000 := by simp; omega
      have hsum : sizes (ts.take (i + 1)) = sizes (ts.take i) + t.size := by rw [List.take_add_one, ht, sizes_append]; simp [sizes]
      have HS := Lib.hid hsum
      have HT := Lib.hid ht
      unfold ptr at hcell
      clear hsum ht hT hg hSa
      go_wp2
      go_roundw
      case rel => exact ⟨i + 1, by omega, by go_num, by rw [HS.out]; simp; omega, by trivial⟩
      case measure => simp [intOf]; omega
    · obtain rfl : i = ts.length := by omega
      have hsb := sizes_bd ts
      have htk : ts.take ts.length = ts := List.take_length
      rw [htk]
      clear htk
      by_cases hcap : 1000000 < 1 + sizes ts
      · have e : (Tm.mk k n ts).size = 1000000 := by simp [Tm.size, cap, hcap]
        have E := Lib.hid e
        clear e
        go_wp2
        go_ret
        refine ⟨_, rfl, Nat.le_refl _, ?_, below_alloc (Below.refl _ _) _⟩
        simp only [TAt]
        exact ⟨A, c, gs, hS _ (Nat.le_refl _), hc, by rw [E.out]; exact blk_new _ _, HR.out.below (below_alloc (Below.refl _ _) _), HL.out.below (below_alloc (Below.refl _ _) _)⟩
      · have e : (Tm.mk k n ts).size = 1 + sizes ts := by simp [Tm.size, cap, hcap]
        have E := Lib.hid e
        clear e
        go_wp2
        go_ret
        refine ⟨_, rfl, Nat.le_refl _, ?_, below_alloc (Below.refl _ _) _⟩
        simp only [TAt]
        exact ⟨A, c, gs, hS _ (Nat.le_refl _), hc, by rw [E.out]; exact blk_new _ _, HR.out.below (below_alloc (Below.refl _ _) _), HL.out.below (below_alloc (Below.refl _ _) _)⟩
end Go.Proofs.YtgoiifpimpnlpaaDoor.PAll
