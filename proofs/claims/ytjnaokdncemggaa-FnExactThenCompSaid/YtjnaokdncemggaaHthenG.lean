/- then with whatever closure of one captured variable; MapComp. -/
import Derived.Test.YtjnaokdncemggaaHthen
namespace Go.Proofs.Ytjnaokdncemggaa.PAll
open Go.RowKit Go.Proofs.YtjnaokdncemggaaW.PrintWords Go.Proofs.YtjnaokdncemggaaW.PrintLast Go.Proofs.YtjnaokdncemggaaW.PrintMore
set_option linter.unusedVariables false
set_option linter.unusedSimpArgs false

/-- The closure fn over the variable at block g answers f, from w0 on. -/
abbrev Clo (fn g : Nat) (f : Int → CT) (w0 : World) : Prop := ∀ (n : Int) (W : World), 0 ≤ n → n ≤ 99 → Below w0.heap.size w0 W →
  Calls Try.prog fn #[.int .i64 n, .pointer (some ⟨g, 0, none⟩)] W fun e w' => ∃ q, e = .returned (.pointer (some ⟨q, 0, none⟩)) ∧ CAt w' q (f n) ∧ Below W.heap.size W w'

set_option maxRecDepth 100000 in
set_option maxHeartbeats 2000000 in
theorem then_calls (fn g : Nat) (f : Int → CT) (w0 : World) (hen : ∀ args W, (callFunc fn args).run Try.prog W = .ok (.enter fn args) W) (hf : Clo fn g f w0) (t : CT) : ∀ (p : Nat) (w : World), CAt w p t → t.ok → Below w0.heap.size w0 w →
    Calls Try.prog 73 #[.pointer (some ⟨p, 0, none⟩), .func (.func fn) #[] #[.pointer (some ⟨g, 0, none⟩)]] w fun e w' => ∃ q, e = .returned (.pointer (some ⟨q, 0, none⟩)) ∧ CAt w' q (t.sub f) ∧ Below w.heap.size w w' := by
  have HF := Lib.hid hf
  clear hf
  induction t with
  | ret n =>
    intro p w ht ho hg
    have c0 : w.cell? ⟨p, 0, none⟩ = some (.int .i64 1) := (blk_cell ht 0).trans rfl
    have c1 : w.cell? ⟨p, 1, none⟩ = some (.int .i64 n) := (blk_cell ht 1).trans rfl
    have HG := Lib.hid hg
    have o0 := ho.1
    have o1 := ho.2
    clear ht ho hg
    go_enter Try.func73, Try.ntmps73
    go_wp2_with ((with_reducible refine (HF.out n _ o0 o1 HG.out).mono ?_); rintro e w' ⟨q, rfl, hq, hb⟩)
    go_ret
    exact ⟨q, rfl, hq, hb⟩
  | ask n a b iha ihb =>
    intro p w ht ho hg
    obtain ⟨pa, pb, hp, ha, hb⟩ := ht
    have c0 : w.cell? ⟨p, 0, none⟩ = some (.int .i64 2) := (blk_cell hp 0).trans rfl
    have c1 : w.cell? ⟨p, 1, none⟩ = some (.int .i64 n) := (blk_cell hp 1).trans rfl
    have c2 : w.cell? ⟨p, 2, none⟩ = some (.pointer (some ⟨pa, 0, none⟩)) := (blk_cell hp 2).trans rfl
    have c3 : w.cell? ⟨p, 3, none⟩ = some (.pointer (some ⟨pb, 0, none⟩)) := (blk_cell hp 3).trans rfl
    have hlt := blk_lt hp
    have SS := Lib.hid (show ∀ W : World, Below w.heap.size w W → W.cell? ⟨p, 1, none⟩ = some (.int .i64 n) ∧ W.cell? ⟨p, 2, none⟩ = some (.pointer (some ⟨pa, 0, none⟩)) ∧ W.cell? ⟨p, 3, none⟩ = some (.pointer (some ⟨pb, 0, none⟩)) from fun W hW => ⟨(hW.cell (p := ⟨p, 1, none⟩) hlt).trans c1, (hW.cell (p := ⟨p, 2, none⟩) hlt).trans c2, (hW.cell (p := ⟨p, 3, none⟩) hlt).trans c3⟩)
    have S4 := SS.out w.drew (below_drew1 (Below.refl _ _))
    have C0 := Lib.hid (iha pa w.drew (ha.below (below_drew1 (Below.refl _ _))) ho.1 (below_drew1 hg))
    have IB := Lib.hid ihb
    have HB := Lib.hid hb
    have HO := Lib.hid ho.2
    have HG := Lib.hid hg
    clear iha ihb ha hb ho hp hg
    go_enter Try.func73, Try.ntmps73
    go_wp2
    go_region_held3 (fun W => W.cell? ⟨p, 1, none⟩ = some (.int .i64 n) ∧ W.cell? ⟨p, 2, none⟩ = some (.pointer (some ⟨pa, 0, none⟩)) ∧ W.cell? ⟨p, 3, none⟩ = some (.pointer (some ⟨pb, 0, none⟩))) (first | (with_reducible exact S4) | (with_reducible exact S5) | (with_reducible exact S6) | (with_reducible exact S7))
      (first
      | (go_at_call 73; (with_reducible refine C0.out.mono ?_); rintro e w5 ⟨qa, rfl, hqa, hb5⟩; have B5 := Lib.hid (below_step (below_drew1 (Below.refl _ _)) hb5); have S5 := SS.out w5 B5.out; have QA := Lib.hid hqa; have C1 := Lib.hid (IB.out pb w5 (HB.out.below B5.out) HO.out (below_step HG.out B5.out)); clear hqa hb5)
      | (go_at_call 73; (with_reducible refine C1.out.mono ?_); rintro e w6 ⟨qb, rfl, hqb, hb6⟩; have B6 := Lib.hid (below_step B5.out hb6); have S6 := SS.out w6 B6.out; have C2 := Lib.hid (asks_calls n qa qb _ _ w6 (QA.out.below hb6) hqb); clear hqb hb6)
      | (go_at_call 93; (with_reducible refine C2.out.mono ?_); rintro e w7 ⟨q, rfl, hq, hb7⟩; have B7 := Lib.hid (below_step B6.out hb7); have S7 := SS.out w7 B7.out; have Q7 := Lib.hid hq; clear hq hb7))
    all_goals go_wp2
    all_goals go_ret
    all_goals exact ⟨q, rfl, Q7.out, B7.out⟩

theorem enters74 : ∀ args W, (callFunc 74 args).run Try.prog W = .ok (.enter 74 args) W := fun args W => enters_ (P := Try.prog) (f := 74) Try.func74 (by kernel_rfl) rfl args W

theorem cparse_ok : ∀ (k : Nat) (l : List S83) (t : CT) (r : List S83), cparse k l = some (t, r) → t.ok := by
  intro k
  induction k with
  | zero => intro l t r h; simp [cparse] at h
  | succ k ih =>
    intro l t r h
    cases l with
    | nil => simp [cparse] at h
    | cons x l =>
      simp only [cparse] at h
      split at h
      · rename_i h1
        simp at h; obtain ⟨rfl, rfl⟩ := h; exact ⟨h1.2.1, h1.2.2⟩
      · split at h
        · cases h1 : cparse k l with
          | none => rw [h1] at h; simp at h
          | some p =>
            obtain ⟨a, r1⟩ := p
            rw [h1] at h
            simp only at h
            cases h2 : cparse k r1 with
            | none => rw [h2] at h; simp at h
            | some q =>
              obtain ⟨b, r2⟩ := q
              rw [h2] at h
              simp at h
              obtain ⟨rfl, rfl⟩ := h
              exact ⟨ih _ _ _ h1, ih _ _ _ h2⟩
        · simp at h
theorem cof_ok {l : List S83} {t : CT} (h : cof l = some t) : t.ok := by
  unfold cof at h
  split at h
  · split at h
    · rename_i h1
      injection h with h
      subst h
      exact cparse_ok _ _ _ _ h1
    · cases h
  · cases h

/-- What good's callers answer. -/
def RowPost (r : List S83 × Bool) (w : World) (e : Ending) (w' : World) : Prop := ∃ v, e = .returned (.tuple #[v, .bool r.2]) ∧ Kd.R k83 83 w' w.heap.size (fun _ => True) v r.1 ∧ Below w.heap.size w w'
def goodOf (t : CT) : List S83 × Bool := if t.size ≤ 60 then (ccells t, true) else ([], false)

theorem good_row (t : CT) (p : Nat) (w : World) (ht : CAt w p t) : Calls Try.prog 76 #[.pointer (some ⟨p, 0, none⟩)] w (RowPost (goodOf t) w) := by
  refine (good_calls t p w ht).mono ?_
  rintro e w' ⟨hb, h⟩
  unfold RowPost goodOf
  split at h
  · rename_i hs
    obtain ⟨v, rfl, hv⟩ := h
    simp only [if_pos hs]
    exact ⟨v, rfl, hv, hb⟩
  · rename_i hs
    subst h
    simp only [if_neg hs]
    exact ⟨_, rfl, Kd.R_nil _ _ _ _ _, hb⟩
theorem RowPost.lower {r : List S83 × Bool} {w w1 : World} (hb : Below w.heap.size w w1) {e : Ending} {w' : World} (h : RowPost r w1 e w') : RowPost r w e w' := by
  obtain ⟨v, he, hv, hb1⟩ := h
  exact ⟨v, he, Kd.R_lower hv hb.size, below_step hb hb1⟩

def addF (by_ : Int) (n : Int) : CT := .ret ((n + by_) % 100)
def mapOf (l : List S83) (by_ : Int) : List S83 × Bool := match cof l with
  | none => ([], false)
  | some t => if 0 ≤ by_ ∧ by_ ≤ 99 then goodOf (t.sub (addF by_)) else ([], false)

theorem clo74 (g : Nat) (by_ : Int) (w0 : World) (h : w0.heap[g]? = some (.cells #[.int .i64 by_] 3 (0, 0))) (b0 : 0 ≤ by_) (b1 : by_ ≤ 99) : Clo 74 g (addF by_) w0 :=
  fun n W h0 h1 hb => add74_calls g by_ n W ((hb.block g (blk_lt h)).trans h) h0 h1 b0 b1

set_option maxRecDepth 100000 in
set_option maxHeartbeats 2000000 in
theorem MapComp_calls (l : List S83) (A : Option Addr) (c : Nat) (by_ : Int) (w : World) (hr : Kd.C k83 w A l.length l) (hc : l.length ≤ c) :
    Calls Try.prog 38 #[.slice A l.length c, .int .i64 by_] w (RowPost (mapOf l by_) w) := by
  have HR := Lib.hid hr
  clear hr
  unfold mapOf
  cases hq : cof l with
  | none =>
    simp only
    have HQ := Lib.hid hq
    clear hq
    go_enter Try.func38, Try.ntmps38
    go_wp2_with (go_at_call 66; refine (compOf_calls l A c _ (Kd.C_below HR.out (by repeat (first | exact Below.refl _ _ | apply below_drew1 | apply below_alloc))) hc).mono ?_; rw [HQ.out]; rintro e w1 ⟨hb, rfl⟩; have HB := Lib.hid (below_step (by repeat (first | exact Below.refl _ _ | apply below_drew1 | apply below_alloc)) hb); clear hb)
    go_ret2
    exact ⟨_, rfl, Kd.R_nil _ _ _ _ _, below_step (below_alloc (Below.refl _ _) _) HB.out⟩
  | some t =>
    have ho := cof_ok hq
    simp only
    have HQ := Lib.hid hq
    clear hq
    by_cases hby : 0 ≤ by_ ∧ by_ ≤ 99
    · rw [if_pos hby]
      obtain ⟨b0, b1⟩ := hby
      go_enter Try.func38, Try.ntmps38
      go_wp2_with (first
        | (go_at_call 66; refine (compOf_calls l A c _ (Kd.C_below HR.out (by repeat (first | exact Below.refl _ _ | apply below_drew1 | apply below_alloc))) hc).mono ?_; rw [HQ.out]; rintro e w1 ⟨hb, p, rfl, hp⟩; have HB := Lib.hid (below_step (by repeat (first | exact Below.refl _ _ | apply below_drew1 | apply below_alloc)) hb); have HP := Lib.hid hp; have hg : w1.heap[w.heap.size]? = some (.cells #[.int .i64 by_] 3 (0, 0)) := (hb.block _ (by simp)).trans (blk_new w _); have HG := Lib.hid hg; have c3 : w1.cell? ⟨w.heap.size, 0, none⟩ = some (.int .i64 by_) := (blk_cell hg 0).trans rfl; clear hb hp hg)
        | (go_at_call 59; refine (within_yes _ _ _ _ b0 b1).mono ?_; rintro e w' ⟨rfl, rfl⟩)
        | (go_at_call 73; refine (then_calls 74 w.heap.size (addF by_) w1 enters74 (clo74 _ _ _ HG.out b0 b1) t p _ (HP.out.below (by repeat (first | exact Below.refl _ _ | apply below_drew1 | apply below_alloc))) ho (by repeat (first | exact Below.refl _ _ | apply below_drew1 | apply below_alloc))).mono ?_; rintro e w2 ⟨q, rfl, hq, hb2⟩; have HB2 := Lib.hid (below_step HB.out (below_step (by repeat (first | exact Below.refl _ _ | apply below_drew1 | apply below_alloc)) hb2)); have HQ2 := Lib.hid hq; clear hq hb2)
        | (go_at_call 76; refine (good_row _ q _ HQ2.out).mono ?_; rintro e w3 hpost; obtain ⟨v, rfl, hv, hb3⟩ := RowPost.lower (below_step (below_alloc (Below.refl _ _) _) HB2.out) hpost; have HV := Lib.hid hv; have HB3 := Lib.hid hb3; clear hv hb3 hpost))
      go_ret2
      exact ⟨_, rfl, HV.out, HB3.out⟩
    · rw [if_neg hby]
      have HN := Lib.hid hby
      clear hby
      go_enter Try.func38, Try.ntmps38
      go_wp2_with (first
        | (go_at_call 66; refine (compOf_calls l A c _ (Kd.C_below HR.out (by repeat (first | exact Below.refl _ _ | apply below_drew1 | apply below_alloc))) hc).mono ?_; rw [HQ.out]; rintro e w1 ⟨hb, p, rfl, hp⟩; have HB := Lib.hid (below_step (by repeat (first | exact Below.refl _ _ | apply below_drew1 | apply below_alloc)) hb); have hg : w1.heap[w.heap.size]? = some (.cells #[.int .i64 by_] 3 (0, 0)) := (hb.block _ (by simp)).trans (blk_new w _); have c3 : w1.cell? ⟨w.heap.size, 0, none⟩ = some (.int .i64 by_) := (blk_cell hg 0).trans rfl; clear hb hp hg)
        | (go_at_call 59; refine (within_no _ _ _ _ HN.out).mono ?_; rintro e w' ⟨rfl, rfl⟩))
      go_ret2
      exact ⟨_, rfl, Kd.R_nil _ _ _ _ _, below_step (below_alloc (Below.refl _ _) _) HB.out⟩
end Go.Proofs.Ytjnaokdncemggaa.PAll
