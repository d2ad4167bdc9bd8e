/- RunComp by its contract: the walk down the tree by the answers. -/
import Derived.Test.YtjnaokdncemggaaHcompD
namespace Go.Proofs.Ytjnaokdncemggaa.PAll
open Go.RowKit Go.Proofs.YtjnaokdncemggaaW.PrintWords Go.Proofs.YtjnaokdncemggaaW.PrintLast Go.Proofs.YtjnaokdncemggaaW.PrintMore
set_option linter.unusedVariables false
set_option linter.unusedSimpArgs false

/-- What the run finds, n answers used. -/
def runC : CT → List Bool → Nat → Int × Int × Bool
  | .ret x, l, n => (x, (n : Int), true)
  | .ask _ a b, l, n => match l[n]? with
    | none => (0, 0, false)
    | some true => runC a l (n + 1)
    | some false => runC b l (n + 1)

def runOf (l : List S83) (bs : List Bool) : Int × Int × Bool := match cof l with
  | none => (0, 0, false)
  | some t => if 60 < bs.length then (0, 0, false) else runC t bs 0

set_option maxRecDepth 100000 in
set_option maxHeartbeats 1000000 in
theorem RunComp_calls (l : List S83) (bs : List Bool) (A : Option Addr) (c : Nat) (A1 : Option Addr) (c1 : Nat) (w : World) (hr : Kd.C k83 w A l.length l) (hc : l.length ≤ c) (hr1 : Kd.C Kd.bool w A1 bs.length bs) (hc1 : bs.length ≤ c1) :
    Calls Try.prog 29 #[.slice A l.length c, .slice A1 bs.length c1] w fun e w' => e = .returned (.tuple #[.int .i64 (runOf l bs).1, .int .i64 (runOf l bs).2.1, .bool (runOf l bs).2.2]) ∧ Below w.heap.size w w' := by
  have hm1 := hr1.2.1
  have HR := Lib.hid hr
  have HR1 := Lib.hid hr1
  clear hr hr1
  cases hq : cof l with
  | none =>
    have e : runOf l bs = (0, 0, false) := by simp [runOf, hq]
    rw [e]
    have HQ := Lib.hid hq
    clear hq e
    go_enter Try.func29, Try.ntmps29
    go_wp2_with (go_at_call 66; refine (compOf_calls l A c _ HR.out hc).mono ?_; rw [HQ.out]; rintro e w1 ⟨hb, rfl⟩)
    go_ret3
    exact ⟨rfl, hb⟩
  | some t =>
    have HQ := Lib.hid hq
    by_cases h60 : 60 < bs.length
    · have e : runOf l bs = (0, 0, false) := by simp [runOf, hq, h60]
      rw [e]
      clear hq e
      go_enter Try.func29, Try.ntmps29
      go_wp2_with (go_at_call 66; refine (compOf_calls l A c _ HR.out hc).mono ?_; rw [HQ.out]; rintro e w1 ⟨hb, g, rfl, ha⟩)
      go_ret3
      exact ⟨rfl, hb⟩
    · have e : runOf l bs = runC t bs 0 := by simp [runOf, hq, h60]
      have h60' : bs.length ≤ 60 := by omega
      rw [e]
      clear hq e h60
      go_enter Try.func29, Try.ntmps29
      go_wp2_with fail
      refine (compOf_calls l A c _ HR.out hc).mono ?_
      rw [HQ.out]
      rintro e w1 ⟨hb, g, rfl, ha⟩
      have HA := Lib.hid ha
      clear ha
      go_wp2
      go_loopw [7, 8] (fun v7 v8 wr => ∃ (u : CT) (p n : Nat), v7 = .pointer (some ⟨p, 0, none⟩) ∧ v8 = .int .i64 n ∧ n ≤ bs.length ∧ Hid (CAt w1 p u) ∧ Hid (runC t bs 0 = runC u bs n) ∧ wr = w1) (fun _ v8 _ => bs.length - (intOf v8).toNat)
      case atStart => exact ⟨t, g, 0, rfl, rfl, Nat.zero_le _, HA, Lib.hid rfl, rfl⟩
      case round =>
        obtain ⟨u, p, n, rfl, rfl, hn, HU, HE, rfl⟩ := hrel
        cases u with
        | ret x =>
          have c0 := (blk_cell HU.out 0).trans rfl
          have c1x := (blk_cell HU.out 1).trans rfl
          go_wp2
          go_ret3
          exact ⟨by rw [HE.out]; rfl, hb⟩
        | ask x a b =>
          obtain ⟨pa, pb, hblk, ha, hbt⟩ := HU.out
          have c0 := (blk_cell hblk 0).trans rfl
          have c2 := (blk_cell hblk 2).trans rfl
          have c3 := (blk_cell hblk 3).trans rfl
          have HA2 := Lib.hid ha
          have HB2 := Lib.hid hbt
          clear ha hbt hblk HU
          by_cases hlt : n < bs.length
          · obtain ⟨ad, hA, hcell⟩ := Kd.at_bool (Kd.C_below HR1.out hb) (n : Int) (by omega) (by omega)
            subst hA
            simp only [Int.toNat_natCast] at hcell
            have hg : bs[n]? = some bs[n] := by simp [hlt]
            have hrd : rdOf false bs (n : Int) = bs[n] := by simp [rdOf, List.getD_eq_getElem?_getD, hg]
            rw [hrd] at hcell
            have bn : ((n : Int) == (bs.length : Int)) = false := by simp; omega
            cases hv : bs[n] with
            | true =>
              rw [hv] at hcell hg
              have HE2 := Lib.hid (show runC t bs 0 = runC a bs (n + 1) by rw [HE.out]; simp only [runC, hg])
              clear hv hrd hg
              go_wp2
              go_roundw
              case rel => exact ⟨a, pa, n + 1, rfl, by go_num, by omega, HA2, HE2, by trivial⟩
              case measure => simp [intOf]; omega
            | false =>
              rw [hv] at hcell hg
              have HE2 := Lib.hid (show runC t bs 0 = runC b bs (n + 1) by rw [HE.out]; simp only [runC, hg])
              clear hv hrd hg
              go_wp2
              go_roundw
              case rel => exact ⟨b, pb, n + 1, rfl, by go_num, by omega, HB2, HE2, by trivial⟩
              case measure => simp [intOf]; omega
          · obtain rfl : n = bs.length := by omega
            have HE2 := Lib.hid (show runC t bs 0 = (0, 0, false) by rw [HE.out]; simp only [runC]; rw [List.getElem?_eq_none (Nat.le_refl _)])
            go_wp2
            go_ret3
            exact ⟨by rw [HE2.out]; first | done | rfl, hb⟩
end Go.Proofs.Ytjnaokdncemggaa.PAll
