/- compFrom makes the tree that cparse tells. -/
import Derived.Test.YtjnaokdncemggaaHcompA
namespace Go.Proofs.Ytjnaokdncemggaa.PAll
open Go.RowKit Go.Proofs.YtjnaokdncemggaaW.PrintWords Go.Proofs.YtjnaokdncemggaaW.PrintLast Go.Proofs.YtjnaokdncemggaaW.PrintMore
set_option linter.unusedVariables false
set_option linter.unusedSimpArgs false

theorem within_yes (n lo hi : Int) (w : World) (h0 : lo ≤ n) (h1 : n ≤ hi) : Calls Try.prog 59 #[.int .i64 n, .int .i64 lo, .int .i64 hi] w fun e w' => e = .returned (.bool true) ∧ w = w' := by
  have c0 : decide (lo ≤ n) = true := decide_eq_true h0
  have c1 : decide (n ≤ hi) = true := decide_eq_true h1
  clear h0 h1
  go_enter Try.func59, Try.ntmps59
  go_wp2
  go_ret
  exact ⟨rfl, rfl⟩
theorem within_no (n lo hi : Int) (w : World) (h : ¬ (lo ≤ n ∧ n ≤ hi)) : Calls Try.prog 59 #[.int .i64 n, .int .i64 lo, .int .i64 hi] w fun e w' => e = .returned (.bool false) ∧ w = w' := by
  by_cases h0 : lo ≤ n
  · have c0 : decide (lo ≤ n) = true := decide_eq_true h0
    have c1 : decide (n ≤ hi) = false := decide_eq_false (fun x => h ⟨h0, x⟩)
    clear h0 h
    go_enter Try.func59, Try.ntmps59
    go_wp2
    go_ret
    exact ⟨rfl, rfl⟩
  · have c0 : decide (lo ≤ n) = false := decide_eq_false h0
    clear h0 h
    go_enter Try.func59, Try.ntmps59
    go_wp2
    go_ret
    exact ⟨rfl, rfl⟩

def cparse : Nat → List S83 → Option (CT × List S83)
  | 0, _ => none
  | _ + 1, [] => none
  | k + 1, x :: r =>
    if x.f0 = 1 ∧ 0 ≤ x.f1 ∧ x.f1 ≤ 99 then some (.ret x.f1, r)
    else if x.f0 = 2 ∧ 0 ≤ x.f1 ∧ x.f1 ≤ 2 then
      match cparse k r with
      | none => none
      | some (a, r1) => match cparse k r1 with
        | none => none
        | some (b, r2) => some (.ask x.f1 a b, r2)
    else none

theorem cparse_len : ∀ (k : Nat) (l : List S83) (t : CT) (r : List S83), cparse k l = some (t, r) → r.length < l.length := by
  intro k
  induction k with
  | zero => intro l t r h; simp [cparse] at h
  | succ k ih =>
    intro l t r h
    cases l with
    | nil => simp [cparse] at h
    | cons x l =>
      simp only [cparse] at h
      split at h
      · simp at h; obtain ⟨_, rfl⟩ := h; simp
      · split at h
        · cases h1 : cparse k l with
          | none => rw [h1] at h; simp at h
          | some p =>
            obtain ⟨a, r1⟩ := p
            rw [h1] at h
            simp only at h
            cases h2 : cparse k r1 with
            | none => rw [h2] at h; simp at h
            | some q =>
              obtain ⟨b, r2⟩ := q
              rw [h2] at h
              simp at h
              obtain ⟨_, rfl⟩ := h
              have := ih _ _ _ h1
              have := ih _ _ _ h2
              simp; omega
        · simp at h

/-- What compFrom answers. -/
def CFrom (r : Option (CT × List S83)) (w : World) (e : Ending) (w' : World) : Prop :=
  Below w.heap.size w w' ∧ match r with
  | none => e = .returned (.tuple #[.pointer none, .slice none 0 0])
  | some (t, rest) => ∃ g A c, e = .returned (.tuple #[.pointer (some ⟨g, 0, none⟩), .slice A rest.length c]) ∧ CAt w' g t ∧ Kd.C k83 w' A rest.length rest ∧ rest.length ≤ c

set_option maxRecDepth 100000 in
set_option maxHeartbeats 1000000 in
theorem compFrom_calls (k : Nat) : ∀ (l : List S83) (A : Option Addr) (c : Nat) (w : World), l.length < k → Kd.C k83 w A l.length l → l.length ≤ c →
    Calls Try.prog 92 #[.slice A l.length c] w (CFrom (cparse k l) w) := by
  induction k with
  | zero => intro l A c w h; omega
  | succ k ih =>
    intro l A c w hk hr hc
    cases l with
    | nil =>
      go_enter Try.func92, Try.ntmps92
      go_wp2
      go_ret2
      exact ⟨Below.refl _ _, rfl⟩
    | cons x l =>
      simp only [List.length_cons] at hk hc hr ⊢
      obtain ⟨ad, rfl, hc0, hc1⟩ := at_T83 hr 0 (by omega) (by omega)
      have e0 : ad.add (Int.toNat 0 * 2) = ad := by simp [Addr.add]
      rw [e0, show rd_T83 (x :: l) 0 = x from rfl] at hc0 hc1
      clear e0
      obtain ⟨A1, hd, hcut⟩ : ∃ A1, Kd.C k83 w A1 l.length l ∧ ∀ W : World, (Instr.slice 36 (.slice (some ad) (l.length + 1) c) (some (.int .i64 1)) none none).run Try.prog W = .ok (.slice A1 l.length (c - 1)) W := by
        obtain ⟨i0, hi0, _, hsz, _⟩ := info_parts info83
        refine ⟨_, Kd.C_drop (k := k83) (m := 1) hr (by simp) hc, fun W => ?_⟩
        rw [cut_from (P := Try.prog) 36 83 .i64 Try.underlying36 hi0 2 hsz (some ad) (l.length + 1) c 1 (by omega) (by omega)]
        rfl
      have HD := Lib.hid hd
      have HR := Lib.hid hr
      have IH := Lib.hid ih
      clear hd hr ih
      have hd0 : ∀ o, (w.alloc o).cell? ad = some (.int .i64 x.f0) := fun o => (World.cell?_alloc_lt _ _ _ (World.block_lt_of_cell? w _ hc0)).trans hc0
      have hd1 : ∀ o, (w.alloc o).cell? ⟨ad.block, ad.off + 1, none⟩ = some (.int .i64 x.f1) := fun o => (World.cell?_alloc_lt _ _ _ (World.block_lt_of_cell? w _ hc1)).trans hc1
      by_cases h1 : x.f0 = 1 ∧ 0 ≤ x.f1 ∧ x.f1 ≤ 99
      · have e : cparse (k + 1) (x :: l) = some (.ret x.f1, l) := by simp only [cparse]; rw [if_pos h1]
        rw [e]
        clear e
        obtain ⟨a1, a2, a3⟩ := h1
        have b1 : (x.f0 == 1) = true := by simp [a1]
        clear a1
        go_enter Try.func92, Try.ntmps92
        go_wp2
        go_region
        go_wp2_with (first | (go_at_call 59; refine (within_yes _ _ _ _ a2 a3).mono ?_; rintro e w' ⟨rfl, rfl⟩) | (go_at_call 75; refine (told_calls _ _ a2 (by omega)).mono ?_; rintro e w' ⟨g, rfl, hg, hb⟩))
        go_ret2
        have hB : Below w.heap.size w w' := below_step (by repeat (first | exact Below.refl _ _ | apply below_drew1 | apply below_alloc)) hb
        rw [show x.f1 % 100 = x.f1 by omega] at hg
        exact ⟨hB, g, A1, c - 1, rfl, hg, Kd.C_below HD.out hB, by omega⟩
      · by_cases h2 : x.f0 = 2 ∧ 0 ≤ x.f1 ∧ x.f1 ≤ 2
        · obtain ⟨a1, a2, a3⟩ := h2
          have b1 : (x.f0 == 1) = false := by simp [a1]
          have b2 : (x.f0 != 2) = false := by simp [a1]
          have hp : cparse (k + 1) (x :: l) = match cparse k l with
              | none => none
              | some (a, r1) => match cparse k r1 with
                | none => none
                | some (b, r2) => some (.ask x.f1 a b, r2) := by simp only [cparse]; rw [if_neg h1, if_pos ⟨a1, a2, a3⟩]
          clear a1 h1
          cases hq : cparse k l with
          | none =>
            rw [hq] at hp
            rw [hp]
            clear hp
            have HQ := Lib.hid hq
            clear hq
            go_enter Try.func92, Try.ntmps92
            go_wp2
            go_region
            go_wp2_with (first | (go_at_call 59; refine (within_yes _ _ _ _ a2 a3).mono ?_; rintro e w' ⟨rfl, rfl⟩) | (go_at_call 92; refine (IH.out l A1 (c - 1) _ (by omega) (Kd.C_below HD.out (by repeat (first | exact Below.refl _ _ | apply below_drew1 | apply below_alloc))) (by omega)).mono ?_; rw [HQ.out]; rintro e w' ⟨hb, rfl⟩))
            go_ret2
            exact ⟨below_step (by repeat (first | exact Below.refl _ _ | apply below_drew1 | apply below_alloc)) hb, rfl⟩
          | some q =>
            obtain ⟨ta, r1⟩ := q
            have hl1 := cparse_len _ _ _ _ hq
            rw [hq] at hp
            simp only at hp
            have HQ := Lib.hid hq
            clear hq
            cases hq2 : cparse k r1 with
            | none =>
              rw [hq2] at hp
              rw [hp]
              clear hp
              have HQ2 := Lib.hid hq2
              clear hq2
              go_enter Try.func92, Try.ntmps92
              go_wp2
              go_region
              go_wp2_with (first | (go_at_call 59; refine (within_yes _ _ _ _ a2 a3).mono ?_; rintro e w' ⟨rfl, rfl⟩) | fail)
              refine (IH.out l A1 (c - 1) _ (by omega) (Kd.C_below HD.out (by repeat (first | exact Below.refl _ _ | apply below_drew1 | apply below_alloc))) (by omega)).mono ?_
              rw [HQ.out]
              rintro e w1 ⟨hb, g1, A2, c2, rfl, ha, hr1, hc2⟩
              go_wp2_with fail
              refine (IH.out r1 A2 c2 _ (by omega) hr1 hc2).mono ?_
              rw [HQ2.out]
              rintro e w2 ⟨hb2, rfl⟩
              go_wp2
              go_ret2
              exact ⟨below_step (below_step (by repeat (first | exact Below.refl _ _ | apply below_drew1 | apply below_alloc)) hb) hb2, rfl⟩
            | some q2 =>
              obtain ⟨tb, r2⟩ := q2
              rw [hq2] at hp
              rw [hp]
              clear hp
              have HQ2 := Lib.hid hq2
              clear hq2
              go_enter Try.func92, Try.ntmps92
              go_wp2
              go_region
              go_wp2_with (first | (go_at_call 59; refine (within_yes _ _ _ _ a2 a3).mono ?_; rintro e w' ⟨rfl, rfl⟩) | fail)
              refine (IH.out l A1 (c - 1) _ (by omega) (Kd.C_below HD.out (by repeat (first | exact Below.refl _ _ | apply below_drew1 | apply below_alloc))) (by omega)).mono ?_
              rw [HQ.out]
              rintro e w1 ⟨hb, g1, A2, c2, rfl, ha, hr1, hc2⟩
              have hx1 : w1.cell? ⟨w.heap.size, 1, none⟩ = some (.int .i64 x.f1) := (hb.cell (p := ⟨w.heap.size, 1, none⟩) (by simp)).trans (by simp)
              go_wp2_with fail
              refine (IH.out r1 A2 c2 _ (by omega) hr1 hc2).mono ?_
              rw [HQ2.out]
              rintro e w2 ⟨hb2, g2, A3, c3, rfl, hbb, hr2, hc3⟩
              have hx2 : w2.cell? ⟨w.heap.size, 1, none⟩ = some (.int .i64 x.f1) := (hb2.cell (p := ⟨w.heap.size, 1, none⟩) (World.block_lt_of_cell? w1 _ hx1)).trans hx1
              go_wp2_with (go_at_call 93; refine (asks_calls _ _ _ _ _ _ (ha.below hb2) hbb).mono ?_; rintro e w3 ⟨g3, rfl, hg, hb3⟩)
              go_ret2
              exact ⟨below_step (below_step (below_step (by repeat (first | exact Below.refl _ _ | apply below_drew1 | apply below_alloc)) hb) hb2) hb3, g3, A3, c3, rfl, hg, Kd.C_below hr2 hb3, hc3⟩
        · have e : cparse (k + 1) (x :: l) = none := by simp only [cparse]; rw [if_neg h1, if_neg h2]
          rw [e]
          clear e
          by_cases a1 : x.f0 = 1
          · have b1 : (x.f0 == 1) = true := by simp [a1]
            have b2 : (x.f0 != 2) = true := by simp [a1]
            have a2 : ¬ (0 ≤ x.f1 ∧ x.f1 ≤ 99) := fun z => h1 ⟨a1, z.1, z.2⟩
            have A2 := Lib.hid a2
            clear a1 h1 h2 a2
            go_enter Try.func92, Try.ntmps92
            go_wp2
            go_region
            go_wp2_with (go_at_call 59; refine (within_no _ _ _ _ A2.out).mono ?_; rintro e w' ⟨rfl, rfl⟩)
            go_ret2
            exact ⟨by repeat (first | exact Below.refl _ _ | apply below_drew1 | apply below_alloc), rfl⟩
          · have b1 : (x.f0 == 1) = false := by simp [a1]
            by_cases a2 : x.f0 = 2
            · have b2 : (x.f0 != 2) = false := by simp [a2]
              have a3 : ¬ (0 ≤ x.f1 ∧ x.f1 ≤ 2) := fun z => h2 ⟨a2, z.1, z.2⟩
              have A3 := Lib.hid a3
              clear a1 h1 h2 a2 a3
              go_enter Try.func92, Try.ntmps92
              go_wp2
              go_region
              go_wp2_with (go_at_call 59; refine (within_no _ _ _ _ A3.out).mono ?_; rintro e w' ⟨rfl, rfl⟩)
              go_ret2
              exact ⟨by repeat (first | exact Below.refl _ _ | apply below_drew1 | apply below_alloc), rfl⟩
            · have b2 : (x.f0 != 2) = true := by simp [a2]
              clear a1 h1 h2 a2
              go_enter Try.func92, Try.ntmps92
              go_wp2
              go_region
              go_wp2
              go_ret2
              exact ⟨by repeat (first | exact Below.refl _ _ | apply below_drew1 | apply below_alloc), rfl⟩
end Go.Proofs.Ytjnaokdncemggaa.PAll
