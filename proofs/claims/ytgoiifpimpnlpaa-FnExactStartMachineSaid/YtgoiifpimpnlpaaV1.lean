-- Made by pack.py of the texts that the law reaches.
import Derived.ArgAppend
import Derived.Below
import Derived.BigQuiet
import Derived.Deep.AppendLies
import Derived.Deep.CutBlock
import Derived.Deep.DeepCutAuto
import Derived.Deep.Draws
import Derived.Deep.LoopGhost
import Derived.Deep.OwnRows
import Derived.Deep.QuietTactic
import Derived.Deep.RegionHeld3
import Derived.Deep.RegionLaw
import Derived.Deep.RegionWith
import Derived.KernelRfl
import Derived.Laws.BitsLemmas
import Derived.Laws.BytesArg
import Derived.Laws.IdiomCopy
import Derived.Laws.MakeOwn
import Derived.Laws.OwnMore
import Derived.Laws.Rows
import Derived.Laws.Slices
import Derived.Lib.AppendStr
import Derived.Lib.ConvBytes
import Derived.Lib.Hide
import Derived.Maps.AppendAt
import Derived.OrdersHeld
import Derived.Outline
import Derived.OwnWalk
import Derived.RowKit
import Derived.RowKit3
import Derived.Shelf.Slices.CompactI
import Derived.Shelf.Sort.Plain
import Derived.Sort.OwnSortedInts
import Derived.Tactics
import Derived.Test.YtgoiifpimpnlpaaProg
import Derived.WalkKit
import Derived.WideLaws
import Derived.Test.YtgoiifpimpnlpaaV0
namespace Go.Proofs.Ytgoiifpimpnlpaa.PAll
open Go.RowKit Go.Proofs.YtgoiifpimpnlpaaW.PrintWords Go.Proofs.YtgoiifpimpnlpaaW.PrintLast Go.Proofs.YtgoiifpimpnlpaaW.PrintMore
set_option linter.defProp false
def aa_ := @World.block_lt_of_cell?
def ab_ := @Aside0.mk
def ac_ := @blk_drewN
def ad_ := @blk_alloc
def ae_ := @blk_drew
def af_ := @below_set
def ag_ := @pw_below_drewN
def ah_ := @below_drew1
def ai_ := @below_alloc
def aj_ := @Nat.lt_of_lt_of_le
def ak_ := @Nat.ne_of_lt
def al_ := @blk_frozen
def am_ := @blk_cell
def an_ := @decide_eq_true
def ao_ := @below_step
end Go.Proofs.Ytgoiifpimpnlpaa.PAll

section
namespace Go.Proofs.Ytgoiifpimpnlpaa.PAll
open Go.RowKit Go.Proofs.YtgoiifpimpnlpaaW.PrintWords Go.Proofs.YtgoiifpimpnlpaaW.PrintLast Go.Proofs.YtgoiifpimpnlpaaW.PrintMore
attribute [local go_sem] max2_int min2_int max_two min_two max_three min_three max_four min_four   -- for this text's walks alone
set_option linter.unusedVariables false
set_option linter.unusedSimpArgs false
def errW : Option Int → Value
  | none => .nilIface
  | some c => .iface 0 (.int .i64 c)
theorem errW_none : errW none = .nilIface := rfl
theorem errW_some (c : Int) : errW (some c) = .iface 0 (.int .i64 c) := rfl
theorem info3 : (Try.prog.info? 3).map (fun i => (i.zero, i.size, i.bytes)) = some (some (.int .i64 0), 1, 8) := by kernel_rfl
theorem info62 : (Try.prog.info? 62).map (fun i => (i.zero, i.size, i.bytes)) = some (some (.agg #[(.int .i64 0), (.int .i64 0), (.slice none 0 0)]), 3, 40) := by kernel_rfl
theorem info66 : (Try.prog.info? 66).map (fun i => (i.zero, i.size, i.bytes)) = some (some (.agg #[(.int .i64 0), (.int .i64 0)]), 2, 16) := by kernel_rfl
structure S68 where
  f0 : Int
  f1 : Int
def z68 : S68 := ⟨(0 : Int), (0 : Int)⟩
def k68 : Kd S68 := Kd.iso (Kd.pair (Kd.int .i64) (Kd.int .i64)) (fun x : S68 => (x.f0, x.f1))
theorem k68_open {w : World} {x : S68} {cs : List Value} (h : k68.K w x cs) : cs = [.int .i64 x.f0, .int .i64 x.f1] := by
  obtain ⟨_, _, rfl, rfl, rfl⟩ := h
  exact rfl
def rd_T68 (xs : List S68) (i : Int) : S68 := xs.getD i.toNat z68
theorem at_T68 {w : World} {A : Option Addr} {n : Nat} {xs : List S68} (h : Kd.C k68 w A n xs) (i : Int) (h0 : 0 ≤ i) (h1 : i < n) : ∃ ad , A = some ad ∧ w.cell? (ad.add (i.toNat * 2)) = some (.int .i64 (rd_T68 xs i).f0) ∧ w.cell? ⟨(ad.add (i.toNat * 2)).block, (ad.add (i.toNat * 2)).off + 1, none⟩ = some (.int .i64 (rd_T68 xs i).f1) := by
  obtain ⟨ad, c, e, _, hK, hc0⟩ := Kd.C_get h z68 i h0 h1
  have hc : ∀ j u, c[j]? = some u → w.cell? (ad.add (i.toNat * 2 + j)) = some u := hc0
  obtain rfl := k68_open hK
  exact ⟨ad, e, hc 0 _ rfl, by rw [← add_field _ _ 1 (by omega)]; exact hc 1 _ rfl⟩
structure S66 where
  f0 : Int
  f1 : Int
def z66 : S66 := ⟨(0 : Int), (0 : Int)⟩
def k66 : Kd S66 := Kd.iso (Kd.pair (Kd.int .i64) (Kd.int .i64)) (fun x : S66 => (x.f0, x.f1))
theorem k66_open {w : World} {x : S66} {cs : List Value} (h : k66.K w x cs) : cs = [.int .i64 x.f0, .int .i64 x.f1] := by
  obtain ⟨_, _, rfl, rfl, rfl⟩ := h
  exact rfl
theorem k66_openM {w : World} {base : Nat} {ok : Nat → Prop} {x : S66} {cs : List Value} (h : k66.M w base ok x cs) : cs = [.int .i64 x.f0, .int .i64 x.f1] := by
  obtain ⟨_, _, rfl, rfl, rfl⟩ := h
  exact rfl
theorem k66_mkM (w : World) (base : Nat) (ok : Nat → Prop) (x : S66)  : k66.M w base ok x [.int .i64 x.f0, .int .i64 x.f1] := ⟨[.int .i64 x.f0], [.int .i64 x.f1], rfl, rfl, rfl⟩
def rd_T66 (xs : List S66) (i : Int) : S66 := xs.getD i.toNat z66
theorem at_T66 {w : World} {A : Option Addr} {n : Nat} {xs : List S66} (h : Kd.C k66 w A n xs) (i : Int) (h0 : 0 ≤ i) (h1 : i < n) : ∃ ad , A = some ad ∧ w.cell? (ad.add (i.toNat * 2)) = some (.int .i64 (rd_T66 xs i).f0) ∧ w.cell? ⟨(ad.add (i.toNat * 2)).block, (ad.add (i.toNat * 2)).off + 1, none⟩ = some (.int .i64 (rd_T66 xs i).f1) := by
  obtain ⟨ad, c, e, _, hK, hc0⟩ := Kd.C_get h z66 i h0 h1
  have hc : ∀ j u, c[j]? = some u → w.cell? (ad.add (i.toNat * 2 + j)) = some u := hc0
  obtain rfl := k66_open hK
  exact ⟨ad, e, hc 0 _ rfl, by rw [← add_field _ _ 1 (by omega)]; exact hc 1 _ rfl⟩
structure S62 where
  f0 : Int
  f1 : Int
  f2 : (List S62)
def z62 : S62 := ⟨(0 : Int), (0 : Int), ([] : List S62)⟩
def F62 (d : Kd S62) : Kd S62 := Kd.iso (Kd.pair (Kd.int .i64) (Kd.pair (Kd.int .i64) (Kd.slice 62 d))) (fun x : S62 => (x.f0, x.f1, x.f2))
theorem mono62 : Kd.Mono F62 := Kd.mono_iso _ (Kd.mono_pair (Kd.mono_const _) (Kd.mono_pair (Kd.mono_const _) (Kd.mono_slice 62 Kd.mono_id)))
theorem sub62 : Kd.Sub F62 [62] := Kd.sub_iso _ (Kd.sub_pair (Kd.sub_const _ (by decide)) (Kd.sub_pair (Kd.sub_const _ (by decide)) (Kd.sub_slice 62 (by decide) Kd.sub_id)))
theorem sz62 : ∀ n, (Kd.upto F62 3 [62] n).sz = 3 := Kd.upto_sz (fun _ => rfl)
def k62 : Kd S62 := Kd.fix F62 3 [62] sz62 (Kd.upto_E sub62)
theorem k62_open {w : World} {x : S62} {cs : List Value} (h : k62.K w x cs) : ∃ A2 c2, cs = [.int .i64 x.f0, .int .i64 x.f1, .slice A2 x.f2.length c2] ∧ x.f2.length ≤ c2 ∧ k62.C w A2 x.f2.length x.f2 := by
  obtain ⟨n, h⟩ := h
  cases n with
  | zero => exact h.elim
  | succ n =>
    obtain ⟨_, _, rfl, rfl, ⟨_, _, rfl, rfl, ⟨A2, c2, rfl, l2, g2⟩⟩⟩ := h
    exact ⟨A2, c2, rfl, l2, Kd.fix_C g2⟩
theorem k62_mkM (w : World) (base : Nat) (ok : Nat → Prop) (x : S62) {v2 : Value} (g2 : k62.R 62 w base ok v2 x.f2) : k62.M w base ok x [.int .i64 x.f0, .int .i64 x.f1, v2] := by
  obtain ⟨n2, q2⟩ := Kd.fix_R_back mono62 g2
  have r2 := Kd.upto_R_le mono62 sz62 (show n2 ≤ n2 by omega) q2
  exact ⟨n2 + 1, ⟨[.int .i64 x.f0], [.int .i64 x.f1, v2], rfl, rfl, ⟨[.int .i64 x.f1], [v2], rfl, rfl, ⟨v2, rfl, r2⟩⟩⟩⟩
def rd_T62 (xs : List S62) (i : Int) : S62 := xs.getD i.toNat z62
theorem at_T62 {w : World} {A : Option Addr} {n : Nat} {xs : List S62} (h : Kd.C k62 w A n xs) (i : Int) (h0 : 0 ≤ i) (h1 : i < n) : ∃ ad A2 c2, A = some ad ∧ w.cell? (ad.add (i.toNat * 3)) = some (.int .i64 (rd_T62 xs i).f0) ∧ w.cell? ⟨(ad.add (i.toNat * 3)).block, (ad.add (i.toNat * 3)).off + 1, none⟩ = some (.int .i64 (rd_T62 xs i).f1) ∧ w.cell? ⟨(ad.add (i.toNat * 3)).block, (ad.add (i.toNat * 3)).off + 2, none⟩ = some (.slice A2 (rd_T62 xs i).f2.length c2) ∧ (rd_T62 xs i).f2.length ≤ c2 ∧ k62.C w A2 (rd_T62 xs i).f2.length (rd_T62 xs i).f2 := by
  obtain ⟨ad, c, e, _, hK, hc0⟩ := Kd.C_get h z62 i h0 h1
  have hc : ∀ j u, c[j]? = some u → w.cell? (ad.add (i.toNat * 3 + j)) = some u := hc0
  obtain ⟨A2, c2, rfl, l2, g2⟩ := k62_open hK
  exact ⟨ad, A2, c2, e, hc 0 _ rfl, by rw [← add_field _ _ 1 (by omega)]; exact hc 1 _ rfl, by rw [← add_field _ _ 2 (by omega)]; exact hc 2 _ rfl, l2, g2⟩
structure S147 where
  f0 : Int
  f1 : Int
  f2 : Int
  f3 : Int
def z147 : S147 := ⟨(0 : Int), (0 : Int), (0 : Int), (0 : Int)⟩
def k147 : Kd S147 := Kd.iso (Kd.pair (Kd.int .i64) (Kd.pair (Kd.int .i64) (Kd.pair (Kd.int .i64) (Kd.int .i64)))) (fun x : S147 => (x.f0, x.f1, x.f2, x.f3))
theorem k147_open {w : World} {x : S147} {cs : List Value} (h : k147.K w x cs) : cs = [.int .i64 x.f0, .int .i64 x.f1, .int .i64 x.f2, .int .i64 x.f3] := by
  obtain ⟨_, _, rfl, rfl, ⟨_, _, rfl, rfl, ⟨_, _, rfl, rfl, rfl⟩⟩⟩ := h
  exact rfl
theorem k147_openM {w : World} {base : Nat} {ok : Nat → Prop} {x : S147} {cs : List Value} (h : k147.M w base ok x cs) : cs = [.int .i64 x.f0, .int .i64 x.f1, .int .i64 x.f2, .int .i64 x.f3] := by
  obtain ⟨_, _, rfl, rfl, ⟨_, _, rfl, rfl, ⟨_, _, rfl, rfl, rfl⟩⟩⟩ := h
  exact rfl
theorem k147_mkM (w : World) (base : Nat) (ok : Nat → Prop) (x : S147)  : k147.M w base ok x [.int .i64 x.f0, .int .i64 x.f1, .int .i64 x.f2, .int .i64 x.f3] := ⟨[.int .i64 x.f0], [.int .i64 x.f1, .int .i64 x.f2, .int .i64 x.f3], rfl, rfl, ⟨[.int .i64 x.f1], [.int .i64 x.f2, .int .i64 x.f3], rfl, rfl, ⟨[.int .i64 x.f2], [.int .i64 x.f3], rfl, rfl, rfl⟩⟩⟩
def rd_T147 (xs : List S147) (i : Int) : S147 := xs.getD i.toNat z147
theorem at_T147 {w : World} {A : Option Addr} {n : Nat} {xs : List S147} (h : Kd.C k147 w A n xs) (i : Int) (h0 : 0 ≤ i) (h1 : i < n) : ∃ ad , A = some ad ∧ w.cell? (ad.add (i.toNat * 4)) = some (.int .i64 (rd_T147 xs i).f0) ∧ w.cell? ⟨(ad.add (i.toNat * 4)).block, (ad.add (i.toNat * 4)).off + 1, none⟩ = some (.int .i64 (rd_T147 xs i).f1) ∧ w.cell? ⟨(ad.add (i.toNat * 4)).block, (ad.add (i.toNat * 4)).off + 2, none⟩ = some (.int .i64 (rd_T147 xs i).f2) ∧ w.cell? ⟨(ad.add (i.toNat * 4)).block, (ad.add (i.toNat * 4)).off + 3, none⟩ = some (.int .i64 (rd_T147 xs i).f3) := by
  obtain ⟨ad, c, e, _, hK, hc0⟩ := Kd.C_get h z147 i h0 h1
  have hc : ∀ j u, c[j]? = some u → w.cell? (ad.add (i.toNat * 4 + j)) = some u := hc0
  obtain rfl := k147_open hK
  exact ⟨ad, e, hc 0 _ rfl, by rw [← add_field _ _ 1 (by omega)]; exact hc 1 _ rfl, by rw [← add_field _ _ 2 (by omega)]; exact hc 2 _ rfl, by rw [← add_field _ _ 3 (by omega)]; exact hc 3 _ rfl⟩
structure S150 where
  f0 : Bool
  f1 : Int
  f2 : Int
  f3 : Int
def z150 : S150 := ⟨false, (0 : Int), (0 : Int), (0 : Int)⟩
def k150 : Kd S150 := Kd.iso (Kd.pair Kd.bool (Kd.pair (Kd.int .i64) (Kd.pair (Kd.int .i64) (Kd.int .i64)))) (fun x : S150 => (x.f0, x.f1, x.f2, x.f3))
theorem k150_open {w : World} {x : S150} {cs : List Value} (h : k150.K w x cs) : cs = [.bool x.f0, .int .i64 x.f1, .int .i64 x.f2, .int .i64 x.f3] := by
  obtain ⟨_, _, rfl, rfl, ⟨_, _, rfl, rfl, ⟨_, _, rfl, rfl, rfl⟩⟩⟩ := h
  exact rfl
theorem k150_openM {w : World} {base : Nat} {ok : Nat → Prop} {x : S150} {cs : List Value} (h : k150.M w base ok x cs) : cs = [.bool x.f0, .int .i64 x.f1, .int .i64 x.f2, .int .i64 x.f3] := by
  obtain ⟨_, _, rfl, rfl, ⟨_, _, rfl, rfl, ⟨_, _, rfl, rfl, rfl⟩⟩⟩ := h
  exact rfl
theorem k150_mkM (w : World) (base : Nat) (ok : Nat → Prop) (x : S150)  : k150.M w base ok x [.bool x.f0, .int .i64 x.f1, .int .i64 x.f2, .int .i64 x.f3] := ⟨[.bool x.f0], [.int .i64 x.f1, .int .i64 x.f2, .int .i64 x.f3], rfl, rfl, ⟨[.int .i64 x.f1], [.int .i64 x.f2, .int .i64 x.f3], rfl, rfl, ⟨[.int .i64 x.f2], [.int .i64 x.f3], rfl, rfl, rfl⟩⟩⟩
def rd_T150 (xs : List S150) (i : Int) : S150 := xs.getD i.toNat z150
theorem at_T150 {w : World} {A : Option Addr} {n : Nat} {xs : List S150} (h : Kd.C k150 w A n xs) (i : Int) (h0 : 0 ≤ i) (h1 : i < n) : ∃ ad , A = some ad ∧ w.cell? (ad.add (i.toNat * 4)) = some (.bool (rd_T150 xs i).f0) ∧ w.cell? ⟨(ad.add (i.toNat * 4)).block, (ad.add (i.toNat * 4)).off + 1, none⟩ = some (.int .i64 (rd_T150 xs i).f1) ∧ w.cell? ⟨(ad.add (i.toNat * 4)).block, (ad.add (i.toNat * 4)).off + 2, none⟩ = some (.int .i64 (rd_T150 xs i).f2) ∧ w.cell? ⟨(ad.add (i.toNat * 4)).block, (ad.add (i.toNat * 4)).off + 3, none⟩ = some (.int .i64 (rd_T150 xs i).f3) := by
  obtain ⟨ad, c, e, _, hK, hc0⟩ := Kd.C_get h z150 i h0 h1
  have hc : ∀ j u, c[j]? = some u → w.cell? (ad.add (i.toNat * 4 + j)) = some u := hc0
  obtain rfl := k150_open hK
  exact ⟨ad, e, hc 0 _ rfl, by rw [← add_field _ _ 1 (by omega)]; exact hc 1 _ rfl, by rw [← add_field _ _ 2 (by omega)]; exact hc 2 _ rfl, by rw [← add_field _ _ 3 (by omega)]; exact hc 3 _ rfl⟩
structure S153 where
  f0 : Int
  f1 : Int
def z153 : S153 := ⟨(0 : Int), (0 : Int)⟩
def k153 : Kd S153 := Kd.iso (Kd.pair (Kd.int .i64) (Kd.int .i64)) (fun x : S153 => (x.f0, x.f1))
theorem k153_open {w : World} {x : S153} {cs : List Value} (h : k153.K w x cs) : cs = [.int .i64 x.f0, .int .i64 x.f1] := by
  obtain ⟨_, _, rfl, rfl, rfl⟩ := h
  exact rfl
theorem k153_openM {w : World} {base : Nat} {ok : Nat → Prop} {x : S153} {cs : List Value} (h : k153.M w base ok x cs) : cs = [.int .i64 x.f0, .int .i64 x.f1] := by
  obtain ⟨_, _, rfl, rfl, rfl⟩ := h
  exact rfl
theorem k153_mkM (w : World) (base : Nat) (ok : Nat → Prop) (x : S153)  : k153.M w base ok x [.int .i64 x.f0, .int .i64 x.f1] := ⟨[.int .i64 x.f0], [.int .i64 x.f1], rfl, rfl, rfl⟩
def rd_T153 (xs : List S153) (i : Int) : S153 := xs.getD i.toNat z153
theorem at_T153 {w : World} {A : Option Addr} {n : Nat} {xs : List S153} (h : Kd.C k153 w A n xs) (i : Int) (h0 : 0 ≤ i) (h1 : i < n) : ∃ ad , A = some ad ∧ w.cell? (ad.add (i.toNat * 2)) = some (.int .i64 (rd_T153 xs i).f0) ∧ w.cell? ⟨(ad.add (i.toNat * 2)).block, (ad.add (i.toNat * 2)).off + 1, none⟩ = some (.int .i64 (rd_T153 xs i).f1) := by
  obtain ⟨ad, c, e, _, hK, hc0⟩ := Kd.C_get h z153 i h0 h1
  have hc : ∀ j u, c[j]? = some u → w.cell? (ad.add (i.toNat * 2 + j)) = some u := hc0
  obtain rfl := k153_open hK
  exact ⟨ad, e, hc 0 _ rfl, by rw [← add_field _ _ 1 (by omega)]; exact hc 1 _ rfl⟩
end Go.Proofs.Ytgoiifpimpnlpaa.PAll

end

section
namespace Go.Proofs.Ytgoiifpimpnlpaa.PAll
open Go.RowKit Go.Proofs.YtgoiifpimpnlpaaW.PrintWords Go.Proofs.YtgoiifpimpnlpaaW.PrintLast Go.Proofs.YtgoiifpimpnlpaaW.PrintMore
set_option linter.unusedVariables false
set_option linter.unusedSimpArgs false
inductive Tm where
  | mk (kind n : Int) (kids : List Tm)
theorem Tm.ind {P : Tm → Prop} (h : ∀ k n ks, (∀ t ∈ ks, P t) → P (.mk k n ks)) : ∀ t, P t := by
  intro t
  refine Tm.rec (motive_1 := P) (motive_2 := fun ks => ∀ t ∈ ks, P t) (fun k n ks ih => h k n ks ih) (fun t ht => by cases ht) (fun t ks ht hks x hx => ?_) t
  rcases List.mem_cons.1 hx with rfl | hx
  · exact ht
  · exact hks x hx
def cap (x : Int) : Int := if 1000000 < x then 1000000 else x
mutual
def Tm.size : Tm → Int
  | .mk _ _ ks => cap (1 + sizes ks)
def sizes : List Tm → Int
  | [] => 0
  | t :: ts => t.size + sizes ts
end
theorem Tm.size_bd (t : Tm) : 1 ≤ t.size ∧ t.size ≤ 1000000 := by
  refine Tm.rec (motive_1 := fun t => 1 ≤ t.size ∧ t.size ≤ 1000000) (motive_2 := fun ks => 0 ≤ sizes ks) (fun k n ks ih => ?_) (by simp [sizes]) (fun t ks ht hks => ?_) t
  · simp only [Tm.size, cap]; split <;> omega
  · simp only [sizes]; omega
theorem sizes_bd (ks : List Tm) : 0 ≤ sizes ks ∧ sizes ks ≤ 1000000 * ks.length := by
  induction ks with
  | nil => simp [sizes]
  | cons t ts ih => have := t.size_bd; simp only [sizes, List.length_cons]; omega
theorem sizes_append (a b : List Tm) : sizes (a ++ b) = sizes a + sizes b := by
  induction a with
  | nil => simp [sizes]
  | cons t ts ih => simp only [List.cons_append, sizes, ih]; omega
def ptr (g : Nat) : Value := .pointer (some ⟨g, 0, none⟩)
def PtrRow (S : Nat → Prop) (w : World) (A : Option Addr) (gs : List Nat) : Prop :=
  ∀ i p, gs[i]? = some p → ∃ ad, A = some ad ∧ S ad.block ∧ w.cell? (ad.add i) = some (ptr p)
mutual
/-- The pointer to block g leads to the term; all its blocks are in S. -/
def TAt (S : Nat → Prop) (w : World) : Nat → Tm → Prop
  | g, .mk k n ks => ∃ A c gs, S g ∧ ks.length ≤ c ∧ w.heap[g]? = some (.cells #[.int .i64 k, .int .i64 n, .slice A ks.length c, .int .i64 (Tm.mk k n ks).size] 80 (0, 0)) ∧ PtrRow S w A gs ∧ LAt S w gs ks
def LAt (S : Nat → Prop) (w : World) : List Nat → List Tm → Prop
  | [], [] => True
  | g :: gs, t :: ts => TAt S w g t ∧ LAt S w gs ts
  | _, _ => False
end
theorem LAt.length {S : Nat → Prop} {w : World} : ∀ {gs : List Nat} {ts : List Tm}, LAt S w gs ts → gs.length = ts.length
  | [], [], _ => rfl
  | g :: gs, t :: ts, h => by simp only [LAt] at h; simp [LAt.length h.2]
  | [], _ :: _, h => by simp [LAt] at h
  | _ :: _, [], h => by simp [LAt] at h
theorem LAt.get {S : Nat → Prop} {w : World} : ∀ {gs : List Nat} {ts : List Tm} {i : Nat} {t : Tm}, LAt S w gs ts → ts[i]? = some t → ∃ g, gs[i]? = some g ∧ TAt S w g t
  | g :: gs, t :: ts, 0, u, h, e => by simp only [LAt] at h; simp at e; subst e; exact ⟨g, rfl, h.1⟩
  | g :: gs, t :: ts, i + 1, u, h, e => by simp only [LAt] at h; simp only [List.getElem?_cons_succ] at e ⊢; exact LAt.get h.2 e
  | [], [], i, u, h, e => by simp at e
  | [], _ :: _, _, _, h, _ => by simp [LAt] at h
  | _ :: _, [], _, _, h, _ => by simp [LAt] at h
theorem LAt.snoc {S : Nat → Prop} {w : World} : ∀ {gs : List Nat} {ts : List Tm} {g : Nat} {t : Tm}, LAt S w gs ts → TAt S w g t → LAt S w (gs ++ [g]) (ts ++ [t])
  | [], [], g, t, _, h => by simp only [List.nil_append, LAt]; exact ⟨h, trivial⟩
  | g0 :: gs, t0 :: ts, g, t, h0, h => by simp only [LAt] at h0; simp only [List.cons_append, LAt]; exact ⟨h0.1, LAt.snoc h0.2 h⟩
  | [], _ :: _, _, _, h, _ => by simp [LAt] at h
  | _ :: _, [], _, _, h, _ => by simp [LAt] at h
theorem PtrRow.step {S S' : Nat → Prop} {w w1 : World} {A : Option Addr} {gs : List Nat} (h : PtrRow S w A gs) (hm : ∀ k, S k → k < w.heap.size → w1.heap[k]? = w.heap[k]?) (hS : ∀ k, S k → k < w.heap.size → S' k) : PtrRow S' w1 A gs := by
  intro i p hp
  obtain ⟨ad, e, hs, hc⟩ := h i p hp
  have hlt : (ad.add i).block < w.heap.size := aa_ w _ hc
  have eb : (ad.add i).block = ad.block := by unfold Addr.add; split <;> simp_all
  rw [eb] at hlt
  refine ⟨ad, e, hS _ hs hlt, ?_⟩
  have := hm _ hs hlt
  have e2 : w1.cell? (ad.add i) = w.cell? (ad.add i) := by simp [World.cell?, eb, this]
  rw [e2]; exact hc
theorem TAt.step {S S' : Nat → Prop} {w w1 : World} (hm : ∀ k, S k → k < w.heap.size → w1.heap[k]? = w.heap[k]?) (hS : ∀ k, S k → k < w.heap.size → S' k) : ∀ {t : Tm} {g : Nat}, TAt S w g t → TAt S' w1 g t := by
  intro t
  refine Tm.rec (motive_1 := fun t => ∀ {g : Nat}, TAt S w g t → TAt S' w1 g t) (motive_2 := fun ts => ∀ {gs : List Nat}, LAt S w gs ts → LAt S' w1 gs ts) (fun k n ks ih => ?_) ?_ (fun t ts ht hts => ?_) t
  · intro g h
    simp only [TAt] at h ⊢
    obtain ⟨A, c, gs, hg, hc, hh, hr, hl⟩ := h
    exact ⟨A, c, gs, hS _ hg (blk_lt hh), hc, (hm _ hg (blk_lt hh)).trans hh, hr.step hm hS, ih hl⟩
  · intro gs h
    cases gs with
    | nil => simp [LAt]
    | cons => simp [LAt] at h
  · intro gs h
    cases gs with
    | nil => simp [LAt] at h
    | cons g gs => simp only [LAt] at h ⊢; exact ⟨ht h.1, hts h.2⟩
theorem LAt.step {S S' : Nat → Prop} {w w1 : World} (hm : ∀ k, S k → k < w.heap.size → w1.heap[k]? = w.heap[k]?) (hS : ∀ k, S k → k < w.heap.size → S' k) : ∀ {ts : List Tm} {gs : List Nat}, LAt S w gs ts → LAt S' w1 gs ts
  | [], [], _ => by simp [LAt]
  | t :: ts, g :: gs, h => by simp only [LAt] at h ⊢; exact ⟨TAt.step hm hS h.1, LAt.step hm hS h.2⟩
  | [], _ :: _, h => by simp [LAt] at h
  | _ :: _, [], h => by simp [LAt] at h
theorem TAt.below {S : Nat → Prop} {w w1 : World} {t : Tm} {g : Nat} (h : TAt S w g t) (hb : Below w.heap.size w w1) : TAt S w1 g t := TAt.step (fun k _ hk => hb.block k hk) (fun _ h _ => h) h
theorem LAt.below {S : Nat → Prop} {w w1 : World} {ts : List Tm} {gs : List Nat} (h : LAt S w gs ts) (hb : Below w.heap.size w w1) : LAt S w1 gs ts := LAt.step (fun k _ hk => hb.block k hk) (fun _ h _ => h) h
theorem PtrRow.below {S : Nat → Prop} {w w1 : World} {A : Option Addr} {gs : List Nat} (h : PtrRow S w A gs) (hb : Below w.heap.size w w1) : PtrRow S w1 A gs := h.step (fun k _ hk => hb.block k hk) (fun _ h _ => h)
theorem TAt.cells {S : Nat → Prop} {w : World} {g : Nat} {k n : Int} {ks : List Tm} (h : TAt S w g (.mk k n ks)) : ∃ A c gs, ks.length ≤ c ∧ w.cell? ⟨g, 0, none⟩ = some (.int .i64 k) ∧ w.cell? ⟨g, 1, none⟩ = some (.int .i64 n) ∧ w.cell? ⟨g, 2, none⟩ = some (.slice A ks.length c) ∧ w.cell? ⟨g, 3, none⟩ = some (.int .i64 (Tm.mk k n ks).size) ∧ PtrRow S w A gs ∧ LAt S w gs ks := by
  simp only [TAt] at h
  obtain ⟨A, c, gs, hg, hc, hh, hr, hl⟩ := h
  exact ⟨A, c, gs, hc, (am_ hh 0).trans rfl, (am_ hh 1).trans rfl, (am_ hh 2).trans rfl, (am_ hh 3).trans rfl, hr, hl⟩
theorem TAt.size_cell {S : Nat → Prop} {w : World} {g : Nat} {t : Tm} (h : TAt S w g t) : w.cell? ⟨g, 3, none⟩ = some (.int .i64 t.size) := by
  cases t with | mk k n ks => obtain ⟨A, c, gs, _, _, _, _, h3, _⟩ := h.cells; exact h3
set_option maxRecDepth 100000 in
set_option maxHeartbeats 1000000 in
theorem newTerm_calls (S : Nat → Prop) (k n : Int) (ts : List Tm) (A : Option Addr) (c : Nat) (gs : List Nat) (w : World) (hn : ts.length ≤ 1000) (hc : ts.length ≤ c) (hr : PtrRow S w A gs) (hl : LAt S w gs ts) (hS : ∀ k, w.heap.size ≤ k → S k) :
    Calls Try.prog 93 #[.int .i64 k, .int .i64 n, .slice A ts.length c] w fun e w' => ∃ g, e = .returned (ptr g) ∧ w.heap.size ≤ g ∧ TAt S w' g (.mk k n ts) ∧ Below w.heap.size w w' := by
  have HR := Lib.hid hr
  have HL := Lib.hid hl
  clear hr hl
  go_enter Try.func93, Try.ntmps93
  go_wp2
  go_loopw [7, 9, 12] (fun v7 v9 v12 wr => ∃ i : Nat, i ≤ ts.length ∧ v12 = .int .i64 i ∧ v7 = .int .i64 (1 + sizes (ts.take i)) ∧ wr = w) (fun _ _ v12 _ => ts.length - (intOf v12).toNat)
  case atStart => exact ⟨0, Nat.zero_le _, rfl, by simp [sizes], rfl⟩
  case round =>
    obtain ⟨i, hi, rfl, rfl, rfl⟩ := hrel
    by_cases hlt : i < ts.length
    · obtain ⟨t, ht⟩ : ∃ t, ts[i]? = some t := ⟨ts[i], by simp [hlt]⟩
      obtain ⟨g, hg, hT⟩ := LAt.get HL.out ht
      obtain ⟨ad, rfl, hSa, hcell⟩ := HR.out i g hg
      have hsz := hT.size_cell
      have hbd := t.size_bd
      have hsb := sizes_bd (ts.take i)
      have htl : (ts.take i).length ≤ 1000 := by simp; omega
      have hsum : sizes (ts.take (i + 1)) = sizes (ts.take i) + t.size := by rw [List.take_add_one, ht, sizes_append]; simp [sizes]
      have HS := Lib.hid hsum
      have HT := Lib.hid ht
      unfold ptr at hcell
      clear hsum ht hT hg hSa
      go_wp2
      go_roundw
      case rel => exact ⟨i + 1, by omega, by go_num, by rw [HS.out]; simp; omega, by trivial⟩
      case measure => simp [intOf]; omega
    · obtain rfl : i = ts.length := by omega
      have hsb := sizes_bd ts
      have htk : ts.take ts.length = ts := List.take_length
      rw [htk]
      clear htk
      by_cases hcap : 1000000 < 1 + sizes ts
      · have e : (Tm.mk k n ts).size = 1000000 := by simp [Tm.size, cap, hcap]
        have E := Lib.hid e
        clear e
        go_wp2
        go_ret
        refine ⟨_, rfl, Nat.le_refl _, ?_, ai_ (Below.refl _ _) _⟩
        simp only [TAt]
        exact ⟨A, c, gs, hS _ (Nat.le_refl _), hc, by rw [E.out]; first | exact blk_new _ _ | (rw [show min (1 + sizes ts) (1000000 : Int) = 1000000 by omega]; exact blk_new _ _) | (rw [show min (1 + sizes ts) (1000000 : Int) = 1 + sizes ts by omega]; exact blk_new _ _), HR.out.below (ai_ (Below.refl _ _) _), HL.out.below (ai_ (Below.refl _ _) _)⟩
      · have e : (Tm.mk k n ts).size = 1 + sizes ts := by simp [Tm.size, cap, hcap]
        have E := Lib.hid e
        clear e
        go_wp2
        go_ret
        refine ⟨_, rfl, Nat.le_refl _, ?_, ai_ (Below.refl _ _) _⟩
        simp only [TAt]
        exact ⟨A, c, gs, hS _ (Nat.le_refl _), hc, by rw [E.out]; first | exact blk_new _ _ | (rw [show min (1 + sizes ts) (1000000 : Int) = 1000000 by omega]; exact blk_new _ _) | (rw [show min (1 + sizes ts) (1000000 : Int) = 1 + sizes ts by omega]; exact blk_new _ _), HR.out.below (ai_ (Below.refl _ _) _), HL.out.below (ai_ (Below.refl _ _) _)⟩
end Go.Proofs.Ytgoiifpimpnlpaa.PAll

end

section
namespace Go.Proofs.Ytgoiifpimpnlpaa.PAll
open Go.RowKit Go.Proofs.YtgoiifpimpnlpaaW.PrintWords Go.Proofs.YtgoiifpimpnlpaaW.PrintLast Go.Proofs.YtgoiifpimpnlpaaW.PrintMore
set_option linter.unusedVariables false
set_option linter.unusedSimpArgs false
theorem within_yes (n lo hi : Int) (w : World) (h0 : lo ≤ n) (h1 : n ≤ hi) : Calls Try.prog 53 #[.int .i64 n, .int .i64 lo, .int .i64 hi] w fun e w' => e = .returned (.bool true) ∧ w = w' := by
  have c0 : decide (lo ≤ n) = true := an_ h0
  have c1 : decide (n ≤ hi) = true := an_ h1
  clear h0 h1
  go_enter Try.func53, Try.ntmps53
  go_wp2
  go_ret
  exact ⟨rfl, rfl⟩
theorem within_no (n lo hi : Int) (w : World) (h : ¬ (lo ≤ n ∧ n ≤ hi)) : Calls Try.prog 53 #[.int .i64 n, .int .i64 lo, .int .i64 hi] w fun e w' => e = .returned (.bool false) ∧ w = w' := by
  by_cases h0 : lo ≤ n
  · have c0 : decide (lo ≤ n) = true := an_ h0
    have c1 : decide (n ≤ hi) = false := decide_eq_false (fun x => h ⟨h0, x⟩)
    clear h0 h
    go_enter Try.func53, Try.ntmps53
    go_wp2
    go_ret
    exact ⟨rfl, rfl⟩
  · have c0 : decide (lo ≤ n) = false := decide_eq_false h0
    clear h0 h
    go_enter Try.func53, Try.ntmps53
    go_wp2
    go_ret
    exact ⟨rfl, rfl⟩
theorem within_calls (n lo hi : Int) (w : World) : Calls Try.prog 53 #[.int .i64 n, .int .i64 lo, .int .i64 hi] w fun e w' => e = .returned (.bool (decide (lo ≤ n ∧ n ≤ hi))) ∧ w = w' := by
  by_cases h : lo ≤ n ∧ n ≤ hi
  · rw [an_ h]; exact within_yes n lo hi w h.1 h.2
  · rw [decide_eq_false h]; exact within_no n lo hi w h
def arI (k : Int) : Int := if k = 1 then 0 else if k = 2 then 0 else if k = 3 then 1 else if k = 4 then 2 else if k = 5 then 2 else if k = 7 then 2 else if k = 6 then 3 else -1
set_option maxRecDepth 100000 in
theorem kidsOf_calls (k : Int) (w : World) : Calls Try.prog 92 #[.int .i64 k] w fun e w' => e = .returned (.int .i64 (arI k)) ∧ w = w' := by
  by_cases h1 : k = 1
  · subst h1; go_enter Try.func92, Try.ntmps92; go_wp2; go_ret; exact ⟨rfl, rfl⟩
  by_cases h2 : k = 2
  · subst h2; go_enter Try.func92, Try.ntmps92; go_wp2; go_ret; exact ⟨rfl, rfl⟩
  by_cases h3 : k = 3
  · subst h3; go_enter Try.func92, Try.ntmps92; go_wp2; go_ret; exact ⟨rfl, rfl⟩
  by_cases h4 : k = 4
  · subst h4; go_enter Try.func92, Try.ntmps92; go_wp2; go_ret; exact ⟨rfl, rfl⟩
  by_cases h5 : k = 5
  · subst h5; go_enter Try.func92, Try.ntmps92; go_wp2; go_ret; exact ⟨rfl, rfl⟩
  by_cases h7 : k = 7
  · subst h7; go_enter Try.func92, Try.ntmps92; go_wp2; go_ret; exact ⟨rfl, rfl⟩
  by_cases h6 : k = 6
  · subst h6; go_enter Try.func92, Try.ntmps92; go_wp2; go_ret; exact ⟨rfl, rfl⟩
  have e : arI k = -1 := by simp [arI, h1, h2, h3, h4, h5, h6, h7]
  rw [e]
  have b1 : (k == 1) = false := by simp [h1]
  have b2 : (k == 2) = false := by simp [h2]
  have b3 : (k == 3) = false := by simp [h3]
  have b4 : (k == 4) = false := by simp [h4]
  have b5 : (k == 5) = false := by simp [h5]
  have b6 : (k == 6) = false := by simp [h6]
  have b7 : (k == 7) = false := by simp [h7]
  clear h1 h2 h3 h4 h5 h6 h7 e
  go_enter Try.func92, Try.ntmps92
  go_wp2
  go_ret
  exact ⟨rfl, rfl⟩
theorem arI_bd (k : Int) : -1 ≤ arI k ∧ arI k ≤ 3 := by unfold arI; repeat' split
                                                        all_goals omega
def cellB (x : S66) : Bool := if x.f0 = 1 then decide (0 ≤ x.f1 ∧ x.f1 ≤ 99) else if x.f0 = 2 then decide (-1000000 ≤ x.f1 ∧ x.f1 ≤ 1000000) else decide (0 < arI x.f0) && decide (x.f1 = 0)
set_option maxRecDepth 100000 in
theorem cellOk_calls (x : S66) (w : World) : Calls Try.prog 91 #[.agg #[.int .i64 x.f0, .int .i64 x.f1]] w fun e w' => e = .returned (.bool (cellB x)) ∧ Below w.heap.size w w' := by
  by_cases h1 : x.f0 = 1
  · have e : cellB x = decide (0 ≤ x.f1 ∧ x.f1 ≤ 99) := by simp [cellB, h1]
    have E := Lib.hid e
    have b1 : (x.f0 == 1) = true := by simp [h1]
    clear h1 e
    go_enter Try.func91, Try.ntmps91
    go_wp2_with (go_at_call 53; refine (within_calls _ _ _ _).mono ?_; rintro e w' ⟨rfl, rfl⟩)
    go_ret
    exact ⟨by rw [E.out]; first | rfl | simp, ai_ (Below.refl _ _) _⟩
  have b1 : (x.f0 == 1) = false := by simp [h1]
  by_cases h2 : x.f0 = 2
  · have e : cellB x = decide (-1000000 ≤ x.f1 ∧ x.f1 ≤ 1000000) := by simp [cellB, h2]
    have E := Lib.hid e
    have b2 : (x.f0 == 2) = true := by simp [h2]
    clear h1 h2 e
    go_enter Try.func91, Try.ntmps91
    go_wp2_with (go_at_call 53; refine (within_calls _ _ _ _).mono ?_; rintro e w' ⟨rfl, rfl⟩)
    go_ret
    exact ⟨by rw [E.out]; first | rfl | simp, ai_ (Below.refl _ _) _⟩
  have b2 : (x.f0 == 2) = false := by simp [h2]
  by_cases h3 : 0 < arI x.f0
  · have e : cellB x = (x.f1 == 0) := by simp only [cellB]; rw [if_neg h1, if_neg h2, an_ h3]; rfl
    have E := Lib.hid e
    clear h1 h2 e
    go_enter Try.func91, Try.ntmps91
    go_wp2_with (go_at_call 92; refine (kidsOf_calls _ _).mono ?_; rintro e w' ⟨rfl, rfl⟩)
    go_ret
    exact ⟨by rw [E.out]; first | rfl | simp, ai_ (Below.refl _ _) _⟩
  · have e : cellB x = false := by simp only [cellB]; rw [if_neg h1, if_neg h2, decide_eq_false h3]; rfl
    rw [e]
    clear h1 h2 e
    go_enter Try.func91, Try.ntmps91
    go_wp2_with (go_at_call 92; refine (kidsOf_calls _ _).mono ?_; rintro e w' ⟨rfl, rfl⟩)
    go_ret
    exact ⟨rfl, ai_ (Below.refl _ _) _⟩
end Go.Proofs.Ytgoiifpimpnlpaa.PAll

end

section
namespace Go.Proofs.Ytgoiifpimpnlpaa.PAll
open Go.RowKit Go.Proofs.YtgoiifpimpnlpaaW.PrintWords Go.Proofs.YtgoiifpimpnlpaaW.PrintLast Go.Proofs.YtgoiifpimpnlpaaW.PrintMore
set_option linter.unusedVariables false
set_option linter.unusedSimpArgs false
theorem info66' : (Try.prog.info? 66).map (fun i => (i.zero, i.size, i.bytes)) = some (some (.agg #[(.int .i64 0), (.int .i64 0)]), 2, 16) := by kernel_rfl
theorem info69 : (Try.prog.info? 69).map (fun i => (i.zero, i.size, i.bytes)) = some (some (.pointer none), 1, 8) := by kernel_rfl
def mkids (f : List S66 → Option (Tm × List S66)) : Nat → List S66 → Option (List Tm × List S66)
  | 0, r => some ([], r)
  | m + 1, r => match f r with
    | none => none
    | some (t, r1) => match mkids f m r1 with
      | none => none
      | some (ts, r2) => some (t :: ts, r2)
def mparse : Nat → List S66 → Option (Tm × List S66)
  | 0, _ => none
  | _ + 1, [] => none
  | k + 1, x :: r => if cellB x = true then match mkids (mparse k) (arI x.f0).toNat r with
      | none => none
      | some (ts, r') => some (.mk x.f0 x.f1 ts, r')
    else none
theorem mkids_len {f : List S66 → Option (Tm × List S66)} (hf : ∀ l t r, f l = some (t, r) → r.length < l.length) : ∀ m l ts r, mkids f m l = some (ts, r) → r.length ≤ l.length ∧ ts.length = m := by
  intro m
  induction m with
  | zero => intro l ts r h; simp [mkids] at h; obtain ⟨rfl, rfl⟩ := h; simp
  | succ m ih =>
    intro l ts r h
    simp only [mkids] at h
    cases h1 : f l with
    | none => rw [h1] at h; simp at h
    | some p =>
      obtain ⟨t, r1⟩ := p
      rw [h1] at h
      simp only at h
      cases h2 : mkids f m r1 with
      | none => rw [h2] at h; simp at h
      | some q =>
        obtain ⟨ts', r2⟩ := q
        rw [h2] at h
        simp at h
        obtain ⟨rfl, rfl⟩ := h
        have := hf _ _ _ h1
        have := ih _ _ _ h2
        simp; omega
theorem mparse_len : ∀ (k : Nat) (l : List S66) (t : Tm) (r : List S66), mparse k l = some (t, r) → r.length < l.length := by
  intro k
  induction k with
  | zero => intro l t r h; simp [mparse] at h
  | succ k ih =>
    intro l t r h
    cases l with
    | nil => simp [mparse] at h
    | cons x l =>
      simp only [mparse] at h
      split at h
      · cases h1 : mkids (mparse k) (arI x.f0).toNat l with
        | none => rw [h1] at h; simp at h
        | some p =>
          obtain ⟨ts, r1⟩ := p
          rw [h1] at h
          simp at h
          obtain ⟨_, rfl⟩ := h
          have := mkids_len ih _ _ _ _ h1
          simp; omega
      · simp at h
def TFrom (r : Option (Tm × List S66)) (w0 w : World) (e : Ending) (w' : World) : Prop :=
  Below w.heap.size w w' ∧ match r with
  | none => e = .returned (.tuple #[.pointer none, .slice none 0 0])
  | some (t, rest) => ∃ g A c, e = .returned (.tuple #[ptr g, .slice A rest.length c]) ∧ TAt (fun k => w.heap.size ≤ k) w' g t ∧ Kd.C k66 w0 A rest.length rest ∧ rest.length ≤ c
def Mid (k a : Nat) (r0 : List S66) (b : Nat) (w0 w wr : World) (j : Nat) (v5 : Value) : Prop :=
  ∃ (ts : List Tm) (gs : List Nat) (arr : Array Value) (rj : List S66) (A5 : Option Addr) (c5 : Nat),
    ts.length = j ∧ v5 = .slice A5 rj.length c5 ∧ Kd.C k66 w0 A5 rj.length rj ∧ rj.length ≤ c5 ∧ rj.length ≤ r0.length ∧
    wr.heap[b]? = some (.cells arr 69 (0, 0)) ∧ arr.size = a ∧ (∀ i p : Nat, gs[i]? = some p → arr[i]? = some (ptr p)) ∧ LAt (fun q => b < q) wr gs ts ∧ Below w.heap.size w wr ∧
    mkids (mparse k) a r0 = match mkids (mparse k) (a - j) rj with
      | none => none
      | some (ts', r') => some (ts ++ ts', r')
theorem Mid_step {k a : Nat} {r0 : List S66} {b : Nat} {w0 w wr w2 : World} {j : Nat} {ts : List Tm} {gs : List Nat} {arr : Array Value} {rj r1 : List S66} {t : Tm} {g : Nat} {A6 : Option Addr} {c6 : Nat}
    (hts : ts.length = j) (hlt : j < a) (hrl : rj.length ≤ r0.length) (hblk : wr.heap[b]? = some (.cells arr 69 (0, 0))) (hsz : arr.size = a) (harr : ∀ i p : Nat, gs[i]? = some p → arr[i]? = some (ptr p)) (hL : LAt (fun q => b < q) wr gs ts) (hBw : Below w.heap.size w wr) (hwb : w.heap.size ≤ b)
    (hpar : mkids (mparse k) a r0 = match mkids (mparse k) (a - j) rj with
      | none => none
      | some (ts', r') => some (ts ++ ts', r')) (hq : mparse k rj = some (t, r1)) (hb2 : Below wr.heap.size wr w2) (hT : TAt (fun q => wr.heap.size ≤ q) w2 g t) (hC6 : Kd.C k66 w0 A6 r1.length r1) (hc6 : r1.length ≤ c6) :
    Mid k a r0 b w0 w (w2.setCell ⟨b, j, none⟩ (ptr g)) (j + 1) (.slice A6 r1.length c6) := by
  have hblt := blk_lt hblk
  have hgl := hL.length
  have hl1 := mparse_len _ _ _ _ hq
  have hset : ∀ q, b < q → (w2.setCell ⟨b, j, none⟩ (ptr g)).heap[q]? = w2.heap[q]? := fun q h => Below.heap_setCell w2 ⟨b, j, none⟩ _ q (by simp; omega)
  refine ⟨ts ++ [t], gs ++ [g], arr.setIfInBounds j (ptr g), r1, A6, c6, by simp [hts], rfl, hC6, hc6, by omega, blk_set ((hb2.block b hblt).trans hblk) j _, by simpa using hsz, ?_, ?_, af_ (below_then hBw hBw.size hb2) hwb, ?_⟩
  · intro i p hp
    by_cases hi : i < gs.length
    · rw [List.getElem?_append_left hi] at hp
      rw [Array.getElem?_setIfInBounds_ne (by omega)]
      exact harr i p hp
    · rw [List.getElem?_append_right (by omega)] at hp
      have e : i - gs.length = 0 := by
        rcases Nat.eq_zero_or_pos (i - gs.length) with h | h
        · exact h
        · rw [List.getElem?_eq_none (by simp; omega)] at hp; cases hp
      rw [e] at hp
      simp at hp
      subst hp
      obtain rfl : i = j := by omega
      rw [Array.getElem?_setIfInBounds_self_of_lt (by omega)]
  · refine LAt.snoc (LAt.step (fun q h _ => hset q h) (fun _ h _ => h) (hL.below hb2)) (TAt.step (fun q h _ => hset q (by omega)) (fun q h _ => ?_) hT)
    show b < q
    omega
  · rw [hpar, show a - j = (a - (j + 1)) + 1 by omega]
    simp only [mkids]
    rw [hq]
    simp only
    cases mkids (mparse k) (a - (j + 1)) r1 with
    | none => rfl
    | some p => simp
set_option maxRecDepth 100000 in
set_option maxHeartbeats 2000000 in
theorem termFrom_calls (k : Nat) : ∀ (l : List S66) (A : Option Addr) (c : Nat) (w0 w : World), l.length < k → Below w0.heap.size w0 w → Kd.C k66 w0 A l.length l → l.length ≤ c →
    Calls Try.prog 54 #[.slice A l.length c] w (TFrom (mparse k l) w0 w) := by
  induction k with
  | zero => intro l A c w0 w h; omega
  | succ k ih =>
    intro l A c w0 w hk hW hr hc
    cases l with
    | nil =>
      go_enter Try.func54, Try.ntmps54
      go_wp2
      go_ret2
      exact ⟨Below.refl _ _, rfl⟩
    | cons x l =>
      simp only [List.length_cons] at hk hc hr ⊢
      obtain ⟨ad, rfl, hc0, hc1⟩ := at_T66 (Kd.C_below hr hW) 0 (by omega) (by omega)
      have e0 : ad.add (Int.toNat 0 * 2) = ad := by simp [Addr.add]
      rw [e0, show rd_T66 (x :: l) 0 = x from rfl] at hc0 hc1
      clear e0
      obtain ⟨A1, hd, hcut⟩ : ∃ A1, Kd.C k66 w0 A1 l.length l ∧ ∀ W : World, (Instr.slice 25 (.slice (some ad) (l.length + 1) c) (some (.int .i64 1)) none none).run Try.prog W = .ok (.slice A1 l.length (c - 1)) W := by
        obtain ⟨i0, hi0, _, hsz, _⟩ := info_parts info66'
        refine ⟨_, Kd.C_drop (k := k66) (m := 1) hr (by simp) hc, fun W => ?_⟩
        rw [cut_from (P := Try.prog) 25 66 .i64 Try.underlying25 hi0 2 hsz (some ad) (l.length + 1) c 1 (by omega) (by omega)]
        rfl
      have HD := Lib.hid hd
      have HR := Lib.hid hr
      have IH := Lib.hid ih
      clear hd hr ih
      cases hb : cellB x with
      | false =>
        have e : mparse (k + 1) (x :: l) = none := by simp only [mparse]; rw [if_neg (by simp [hb])]
        rw [e]
        have HB := Lib.hid hb
        clear e hb
        go_enter Try.func54, Try.ntmps54
        go_wp2_with (go_at_call 91; refine (cellOk_calls x _).mono ?_; rw [HB.out]; rintro e w' ⟨rfl, hb1⟩)
        go_ret2
        exact ⟨hb1, rfl⟩
      | true =>
        have ha : 0 ≤ arI x.f0 := by
          unfold cellB at hb
          split at hb
          · simp [arI, *]
          · split at hb
            · simp [arI, *]
            · simp at hb; omega
        obtain ⟨a, haa⟩ : ∃ a : Nat, arI x.f0 = (a : Int) := ⟨(arI x.f0).toNat, by omega⟩
        have ha3 : a ≤ 3 := by have := arI_bd x.f0; omega
        have hp : mparse (k + 1) (x :: l) = match mkids (mparse k) a l with
            | none => none
            | some (ts, r') => some (.mk x.f0 x.f1 ts, r') := by simp only [mparse]; rw [if_pos hb, haa]; rfl
        have hmk : ∀ W, (Instr.makeSlice 78 (.int .i64 (a : Int)) (.int .i64 (a : Int))).run Try.prog W = .ok (.slice (some ⟨W.heap.size, 0, none⟩) a a) (W.alloc (.cells (madeCells #[.pointer none] a) 69)) := run_make_row' 78 69 (.pointer none) 8 Try.underlying78 info69 rfl .i64 .i64 a (by omega) (by omega)
        have HB := Lib.hid hb
        have HA := Lib.hid haa
        have HP := Lib.hid hp
        clear hb haa hp ha
        go_enter Try.func54, Try.ntmps54
        go_wp2_with (go_at_call 91; refine (cellOk_calls x _).mono ?_; rw [HB.out]; rintro e w1 ⟨rfl, hb1⟩)
        have hc01 : w1.cell? ad = some (.int .i64 x.f0) := (hb1.cell (aa_ w _ hc0)).trans hc0
        have hc11 : w1.cell? ⟨ad.block, ad.off + 1, none⟩ = some (.int .i64 x.f1) := (hb1.cell (aa_ w _ hc1)).trans hc1
        have hd01 : ∀ o, (w1.alloc o).cell? ad = some (.int .i64 x.f0) := fun o => (World.cell?_alloc_lt _ _ _ (aa_ w1 _ hc01)).trans hc01
        go_region_with (go_at_call 92; refine (kidsOf_calls _ _).mono ?_; rw [HA.out]; rintro e w' ⟨rfl, rfl⟩)
        go_wp2
        obtain ⟨b, hbb⟩ : ∃ b, b = w1.heap.size := ⟨_, rfl⟩
        rw [← hbb]
        have hwb : w.heap.size ≤ b := by rw [hbb]; exact hb1.size
        have hB0 : Below w.heap.size w (w1.alloc (.cells (madeCells #[.pointer none] a) 69)).drew := below_drew (ai_ hb1 _)
        have hM : Mid k a l b w0 w (w1.alloc (.cells (madeCells #[.pointer none] a) 69)).drew 0 (.slice A1 l.length (c - 1)) := by
          refine ⟨[], [], madeCells #[.pointer none] a, l, A1, c - 1, rfl, rfl, HD.out, by omega, Nat.le_refl _, by rw [hbb]; exact ae_ (blk_new w1 _), size_madeCells _ _, by simp, by simp [LAt], hB0, ?_⟩
          rw [Nat.sub_zero]
          cases mkids (mparse k) a l with
          | none => rfl
          | some p => rfl
        have HM := Lib.hid hM
        clear hM hB0 hd01
        have HBB := Lib.hid hbb
        clear hbb
        go_loopw [5, 6, 27] (fun v5 v6 v27 wr => ∃ j : Nat, j ≤ a ∧ v27 = .int .i64 j ∧ Mid k a l b w0 w wr j v5) (fun _ _ v27 _ => a - (intOf v27).toNat)
        case atStart => exact ⟨0, Nat.zero_le _, rfl, HM.out⟩
        case round =>
          obtain ⟨j, hj, rfl, ts, gs, arr, rj, A5, c5, hts, rfl, hC, hc5, hrl, hblk, hsz, harr, hL, hBw, hpar⟩ := hrel
          have hblt := blk_lt hblk
          by_cases hlt : j < a
          · have HC := Lib.hid hC
            have HL := Lib.hid hL
            have HPAR := Lib.hid hpar
            have HARR := Lib.hid harr
            have HBLK := Lib.hid hblk
            have HTS := Lib.hid hts
            have HSZ := Lib.hid hsz
            clear hC hL hpar harr hblk hts hsz HM
            obtain ⟨old, hold⟩ : ∃ old, arr[j]? = some old := ⟨arr[j]'(by have := HSZ.out; omega), by have := HSZ.out; simp⟩
            have HOLD := Lib.hid hold
            clear hold
            cases hq : mparse k rj with
            | none =>
              have HQ := Lib.hid hq
              clear hq
              go_wp2_with fail
              refine (IH.out rj A5 c5 w0 _ (by omega) (ao_ hW hBw) HC.out hc5).mono ?_
              rw [HQ.out]
              rintro e w2 ⟨hb2, rfl⟩
              have hk2 : w2.cell? ⟨b, j, none⟩ = some old := (am_ ((hb2.block b hblt).trans HBLK.out) j).trans HOLD.out
              have hf2 : w2.frozen? ⟨b, j, none⟩ = false := al_ ((hb2.block b hblt).trans HBLK.out) j
              go_wp2
              go_ret2
              have hbw2 : Below w.heap.size w w2 := below_then hBw hBw.size hb2
              refine ⟨af_ hbw2 hwb, ?_⟩
              rw [HP.out, HPAR.out, show a - j = (a - j - 1) + 1 by omega]
              simp only [mkids]
              rw [HQ.out]
              rfl
            | some q =>
              obtain ⟨t, r1⟩ := q
              have hl1 := mparse_len _ _ _ _ hq
              have HQ := Lib.hid hq
              clear hq
              go_wp2_with fail
              refine (IH.out rj A5 c5 w0 _ (by omega) (ao_ hW hBw) HC.out hc5).mono ?_
              rw [HQ.out]
              rintro e w2 ⟨hb2, g, A6, c6, rfl, hT, hC6, hc6⟩
              have hk2 : w2.cell? ⟨b, j, none⟩ = some old := (am_ ((hb2.block b hblt).trans HBLK.out) j).trans HOLD.out
              have hf2 : w2.frozen? ⟨b, j, none⟩ = false := al_ ((hb2.block b hblt).trans HBLK.out) j
              unfold ptr
              have HT := Lib.hid hT
              have HC6 := Lib.hid hC6
              clear hT hC6
              go_wp2
              go_roundw
              case rel => exact ⟨j + 1, by omega, by go_num, Mid_step HTS.out hlt hrl HBLK.out HSZ.out HARR.out HL.out hBw hwb HPAR.out HQ.out hb2 HT.out HC6.out hc6⟩
              case measure => simp [intOf]; omega
          · obtain rfl : j = a := by omega
            subst hts
            rw [Nat.sub_self] at hpar
            simp only [mkids, List.append_nil] at hpar
            have hrow : PtrRow (fun q => w.heap.size ≤ q) wr (some ⟨b, 0, none⟩) gs := fun i p hp => ⟨⟨b, 0, none⟩, rfl, hwb, by rw [add_plain]; exact (am_ hblk i).trans (harr i p hp)⟩
            have hL2 : LAt (fun q => w.heap.size ≤ q) wr gs ts := LAt.step (fun _ _ _ => rfl) (fun q h _ => Nat.le_trans hwb (Nat.le_of_lt h)) hL
            have hcr0 : wr.cell? ad = some (.int .i64 x.f0) := (hBw.cell (aa_ w _ hc0)).trans hc0
            have hcr1 : wr.cell? ⟨ad.block, ad.off + 1, none⟩ = some (.int .i64 x.f1) := (hBw.cell (aa_ w _ hc1)).trans hc1
            have HC := Lib.hid hC
            have HL := Lib.hid hL2
            have HROW := Lib.hid hrow
            have HPAR := Lib.hid hpar
            clear hC hL hL2 hrow hpar harr hblk hsz HM hmk
            go_wp2
            go_region_with (go_at_call 93; refine (newTerm_calls (fun q => w.heap.size ≤ q) x.f0 x.f1 ts (some ⟨b, 0, none⟩) ts.length gs _ (by omega) (Nat.le_refl _) (HROW.out.below (below_drew (Below.refl _ _))) (HL.out.below (below_drew (Below.refl _ _))) (fun q h => Nat.le_trans hBw.size h)).mono ?_; rintro e w3 ⟨g, rfl, hg, hT, hb3⟩)
            all_goals
              (go_wp2)
              (unfold ptr)
              (go_ret2)
              (refine ⟨ao_ (below_drew hBw) hb3, ?_⟩)
              (rw [HP.out, HPAR.out])
              (exact ⟨g, A5, c5, rfl, hT, HC.out, hc5⟩)
def tmof (l : List S66) : Option Tm := if l.length ≤ 600 then match mparse 601 l with
  | some (t, []) => some t
  | _ => none
  else none
def TOf (r : Option Tm) (w : World) (e : Ending) (w' : World) : Prop :=
  Below w.heap.size w w' ∧ match r with
  | none => e = .returned (.pointer none)
  | some t => ∃ g, e = .returned (ptr g) ∧ TAt (fun k => w.heap.size ≤ k) w' g t
set_option maxRecDepth 100000 in
theorem termOf_calls (l : List S66) (A : Option Addr) (c : Nat) (w : World) (hr : Kd.C k66 w A l.length l) (hc : l.length ≤ c) :
    Calls Try.prog 49 #[.slice A l.length c] w (TOf (tmof l) w) := by
  by_cases h60 : l.length ≤ 600
  · cases hq : mparse 601 l with
    | none =>
      have e : tmof l = none := by simp [tmof, h60, hq]
      rw [e]
      have HQ := Lib.hid hq
      clear hq e
      go_enter Try.func49, Try.ntmps49
      go_wp2_with (go_at_call 54; refine (termFrom_calls 601 l A c w _ (by omega) (Below.refl _ _) hr hc).mono ?_; rw [HQ.out]; rintro e w1 ⟨hb, rfl⟩)
      go_ret
      exact ⟨hb, rfl⟩
    | some p =>
      obtain ⟨t, r⟩ := p
      cases r with
      | nil =>
        have e : tmof l = some t := by simp [tmof, h60, hq]
        rw [e]
        have HQ := Lib.hid hq
        clear hq e
        go_enter Try.func49, Try.ntmps49
        go_wp2_with (go_at_call 54; refine (termFrom_calls 601 l A c w _ (by omega) (Below.refl _ _) hr hc).mono ?_; rw [HQ.out]; rintro e w1 ⟨hb, g, A1, c1, rfl, ha, hr1, hc1⟩; simp only [List.length_nil]; unfold ptr)
        go_ret
        exact ⟨hb, g, rfl, ha⟩
      | cons x r =>
        have e : tmof l = none := by simp [tmof, h60, hq]
        rw [e]
        have HQ := Lib.hid hq
        clear hq e
        go_enter Try.func49, Try.ntmps49
        go_wp2_with (go_at_call 54; refine (termFrom_calls 601 l A c w _ (by omega) (Below.refl _ _) hr hc).mono ?_; rw [HQ.out]; rintro e w1 ⟨hb, g, A1, c1, rfl, ha, hr1, hc1⟩; simp only [List.length_cons]; unfold ptr)
        go_ret
        exact ⟨hb, rfl⟩
  · have e : tmof l = none := by simp [tmof, h60]
    rw [e]
    clear e
    have h61 : 600 < l.length := by omega
    clear h60
    go_enter Try.func49, Try.ntmps49
    go_wp2
    go_ret
    exact ⟨Below.refl _ _, rfl⟩
end Go.Proofs.Ytgoiifpimpnlpaa.PAll

end

section
namespace Go.Proofs.Ytgoiifpimpnlpaa.PAll
open Go.RowKit Go.Proofs.YtgoiifpimpnlpaaW.PrintWords Go.Proofs.YtgoiifpimpnlpaaW.PrintLast Go.Proofs.YtgoiifpimpnlpaaW.PrintMore
set_option linter.unusedVariables false
set_option linter.unusedSimpArgs false
mutual
/-- As many parts as the kind asks, everywhere. -/
def Tm.wf : Tm → Prop
  | .mk k n ks => arI k = (ks.length : Int) ∧ wfs ks
def wfs : List Tm → Prop
  | [] => True
  | t :: ts => t.wf ∧ wfs ts
end
theorem wfs_get {ts : List Tm} (h : wfs ts) : ∀ t ∈ ts, t.wf := by
  induction ts with
  | nil => intro t ht; cases ht
  | cons a ts ih =>
    simp only [wfs] at h
    intro t ht
    rcases List.mem_cons.1 ht with rfl | ht
    · exact h.1
    · exact ih h.2 t ht
theorem mkids_wf {f : List S66 → Option (Tm × List S66)} (hf : ∀ l t r, f l = some (t, r) → t.wf) : ∀ m l ts r, mkids f m l = some (ts, r) → wfs ts ∧ ts.length = m := by
  intro m
  induction m with
  | zero => intro l ts r h; simp [mkids] at h; obtain ⟨rfl, rfl⟩ := h; simp [wfs]
  | succ m ih =>
    intro l ts r h
    simp only [mkids] at h
    cases h1 : f l with
    | none => rw [h1] at h; simp at h
    | some p =>
      obtain ⟨t, r1⟩ := p
      rw [h1] at h
      simp only at h
      cases h2 : mkids f m r1 with
      | none => rw [h2] at h; simp at h
      | some q =>
        obtain ⟨ts', r2⟩ := q
        rw [h2] at h
        simp at h
        obtain ⟨rfl, rfl⟩ := h
        have := hf _ _ _ h1
        have := ih _ _ _ h2
        simp only [wfs, List.length_cons]
        exact ⟨⟨by assumption, this.1⟩, by omega⟩
theorem cellB_arI {x : S66} (hb : cellB x = true) : 0 ≤ arI x.f0 := by
  unfold cellB at hb
  split at hb
  · simp [arI, *]
  · split at hb
    · simp [arI, *]
    · simp at hb; omega
theorem mparse_wf : ∀ (k : Nat) (l : List S66) (t : Tm) (r : List S66), mparse k l = some (t, r) → t.wf := by
  intro k
  induction k with
  | zero => intro l t r h; simp [mparse] at h
  | succ k ih =>
    intro l t r h
    cases l with
    | nil => simp [mparse] at h
    | cons x l =>
      simp only [mparse] at h
      split at h
      · rename_i hb
        have ha := cellB_arI hb
        cases h1 : mkids (mparse k) (arI x.f0).toNat l with
        | none => rw [h1] at h; simp at h
        | some p =>
          obtain ⟨ts, r1⟩ := p
          rw [h1] at h
          simp at h
          obtain ⟨rfl, _⟩ := h
          have := mkids_wf ih _ _ _ _ h1
          simp only [Tm.wf]
          exact ⟨by omega, this.1⟩
      · simp at h
theorem tmof_wf {l : List S66} {t : Tm} (h : tmof l = some t) : t.wf := by
  unfold tmof at h
  split at h
  · split at h
    · rename_i h1; injection h with h; subst h; exact mparse_wf _ _ _ _ h1
    · cases h
  · cases h
end Go.Proofs.Ytgoiifpimpnlpaa.PAll

end

section
namespace Go.Proofs.Ytgoiifpimpnlpaa.PAll
open Go.RowKit Go.Proofs.YtgoiifpimpnlpaaW.PrintWords Go.Proofs.YtgoiifpimpnlpaaW.PrintLast Go.Proofs.YtgoiifpimpnlpaaW.PrintMore
set_option linter.unusedVariables false
set_option linter.unusedSimpArgs false
mutual
def tcells : Tm → List S66
  | .mk k n ks => ⟨k, n⟩ :: lcells ks
def lcells : List Tm → List S66
  | [] => []
  | t :: ts => tcells t ++ lcells ts
end
mutual
def Tm.cnt : Tm → Nat
  | .mk _ _ ks => 1 + cnts ks
def cnts : List Tm → Nat
  | [] => 0
  | t :: ts => t.cnt + cnts ts
end
theorem cnt_mk (k n : Int) (ks : List Tm) : (Tm.mk k n ks).cnt = 1 + cnts ks := by simp [Tm.cnt]
theorem cnt_pos (t : Tm) : 1 ≤ t.cnt := by cases t; rw [cnt_mk]; omega
theorem tcells_mk (k n : Int) (ks : List Tm) : tcells (.mk k n ks) = ⟨k, n⟩ :: lcells ks := by simp [tcells]
theorem Tm.ind2 {P : Tm → Prop} {Q : List Tm → Prop} (h : ∀ k n ks, Q ks → P (.mk k n ks)) (h0 : Q []) (h1 : ∀ t ts, P t → Q ts → Q (t :: ts)) : (∀ t, P t) ∧ ∀ ts, Q ts := by
  have hP : ∀ t, P t := fun t => Tm.rec (motive_1 := P) (motive_2 := Q) h h0 h1 t
  exact ⟨hP, fun ts => by
    induction ts with
    | nil => exact h0
    | cons t ts ih => exact h1 t ts (hP t) ih⟩
theorem tcells_len (t : Tm) : (tcells t).length = t.cnt := by
  refine (Tm.ind2 (P := fun t => (tcells t).length = t.cnt) (Q := fun ts => (lcells ts).length = cnts ts) ?_ (by simp [lcells, cnts]) ?_).1 t
  · intro k n ks h; simp [tcells, Tm.cnt, h]; omega
  · intro t ts h1 h2; simp [lcells, cnts, h1, h2]
theorem lcells_len (ts : List Tm) : (lcells ts).length = cnts ts := by
  induction ts with
  | nil => simp [lcells, cnts]
  | cons t ts ih => simp [lcells, cnts, ih, tcells_len]
theorem lcells_append (a b : List Tm) : lcells (a ++ b) = lcells a ++ lcells b := by
  induction a with
  | nil => simp [lcells]
  | cons t ts ih => simp [lcells, ih]
def bindsI (k : Int) (i : Nat) : Int := if k = 3 then 1 else if k = 7 ∧ i = 1 then 1 else 0
theorem bindsI_bd (k : Int) (i : Nat) : 0 ≤ bindsI k i ∧ bindsI k i ≤ 1 := by unfold bindsI; split <;> (try split) <;> omega
def tvar (n : Int) : Tm := .mk 1 n []
mutual
/-- Variables are numbers up to B, everywhere. -/
def Tm.vb (B : Int) : Tm → Prop
  | .mk k n ks => (k = 1 → 0 ≤ n ∧ n ≤ B) ∧ vbs B ks
def vbs (B : Int) : List Tm → Prop
  | [] => True
  | t :: ts => t.vb B ∧ vbs B ts
end
theorem vb_mk (B k n : Int) (ks : List Tm) : (Tm.mk k n ks).vb B ↔ (k = 1 → 0 ≤ n ∧ n ≤ B) ∧ vbs B ks := by simp [Tm.vb]
theorem vbs_get {B : Int} {ts : List Tm} (h : vbs B ts) : ∀ t ∈ ts, t.vb B := by
  induction ts with
  | nil => intro t ht; cases ht
  | cons a ts ih =>
    simp only [vbs] at h
    intro t ht
    rcases List.mem_cons.1 ht with rfl | ht
    · exact h.1
    · exact ih h.2 t ht
theorem vb_mono {B C : Int} (hBC : B ≤ C) (t : Tm) : t.vb B → t.vb C := by
  refine (Tm.ind2 (P := fun t => t.vb B → t.vb C) (Q := fun ts => vbs B ts → vbs C ts) ?_ (fun h => h) ?_).1 t
  · intro k n ks h hv
    rw [vb_mk] at hv ⊢
    exact ⟨fun hk => by have := hv.1 hk; omega, h hv.2⟩
  · intro t ts h1 h2 h
    simp only [vbs] at h ⊢
    exact ⟨h1 h.1, h2 h.2⟩
theorem mkids_vb {f : List S66 → Option (Tm × List S66)} (hf : ∀ l t r, f l = some (t, r) → t.vb 99 ∧ t.cnt + r.length = l.length) : ∀ m l ts r, mkids f m l = some (ts, r) → vbs 99 ts ∧ cnts ts + r.length = l.length := by
  intro m
  induction m with
  | zero => intro l ts r h; simp [mkids] at h; obtain ⟨rfl, rfl⟩ := h; simp [vbs, cnts]
  | succ m ih =>
    intro l ts r h
    simp only [mkids] at h
    cases h1 : f l with
    | none => rw [h1] at h; simp at h
    | some p =>
      obtain ⟨t, r1⟩ := p
      rw [h1] at h
      simp only at h
      cases h2 : mkids f m r1 with
      | none => rw [h2] at h; simp at h
      | some q =>
        obtain ⟨ts', r2⟩ := q
        rw [h2] at h
        simp at h
        obtain ⟨rfl, rfl⟩ := h
        have a := hf _ _ _ h1
        have b := ih _ _ _ h2
        simp only [vbs, cnts]
        exact ⟨⟨a.1, b.1⟩, by omega⟩
theorem mparse_vb : ∀ (k : Nat) (l : List S66) (t : Tm) (r : List S66), mparse k l = some (t, r) → t.vb 99 ∧ t.cnt + r.length = l.length := by
  intro k
  induction k with
  | zero => intro l t r h; simp [mparse] at h
  | succ k ih =>
    intro l t r h
    cases l with
    | nil => simp [mparse] at h
    | cons x l =>
      simp only [mparse] at h
      split at h
      · rename_i hb
        cases h1 : mkids (mparse k) (arI x.f0).toNat l with
        | none => rw [h1] at h; simp at h
        | some p =>
          obtain ⟨ts, r1⟩ := p
          rw [h1] at h
          simp at h
          obtain ⟨rfl, rfl⟩ := h
          have a := mkids_vb ih _ _ _ _ h1
          rw [vb_mk, cnt_mk, List.length_cons]
          refine ⟨⟨fun e => ?_, a.1⟩, by omega⟩
          unfold cellB at hb
          rw [if_pos e] at hb
          simpa using hb
      · simp at h
theorem tmof_vb {l : List S66} {t : Tm} (h : tmof l = some t) : t.vb 99 ∧ t.cnt ≤ 600 := by
  unfold tmof at h
  split at h
  · split at h
    · rename_i h0 _ _ h1
      injection h with h
      subst h
      have := mparse_vb _ _ _ _ h1
      exact ⟨this.1, by have := this.2; simp at this; omega⟩
    · cases h
  · cases h
end Go.Proofs.Ytgoiifpimpnlpaa.PAll

end

section
namespace Go.Proofs.Ytgoiifpimpnlpaa.PAll
open Go.RowKit Go.Proofs.YtgoiifpimpnlpaaW.PrintWords Go.Proofs.YtgoiifpimpnlpaaW.PrintLast Go.Proofs.YtgoiifpimpnlpaaW.PrintMore
set_option linter.unusedVariables false
set_option linter.unusedSimpArgs false
theorem binds_calls (k : Int) (i : Nat) (w : World) : Calls Try.prog 128 #[.int .i64 k, .int .i64 i] w fun e w' => e = .returned (.int .i64 (bindsI k i)) ∧ Below w.heap.size w w' := by
  by_cases h3 : k = 3
  · subst h3
    have e : bindsI 3 i = 1 := by simp [bindsI]
    rw [e]
    clear e
    go_enter Try.func128, Try.ntmps128
    go_wp2
    go_ret
    exact ⟨rfl, by repeat (first | exact Below.refl _ _ | apply ag_ | apply ah_)⟩
  have b3 : (k == 3) = false := by simp [h3]
  by_cases h7 : k = 7
  · subst h7
    by_cases h1 : i = 1
    · subst h1
      have e : bindsI 7 1 = 1 := by simp [bindsI]
      rw [e]
      clear e
      go_enter Try.func128, Try.ntmps128
      go_wp2
      go_ret
      exact ⟨rfl, by repeat (first | exact Below.refl _ _ | apply ag_ | apply ah_)⟩
    · have e : bindsI 7 i = 0 := by simp [bindsI, h1]
      have b1 : ((i : Int) == 1) = false := by simp; omega
      rw [e]
      clear e h1
      go_enter Try.func128, Try.ntmps128
      go_wp2
      go_ret
      exact ⟨rfl, by repeat (first | exact Below.refl _ _ | apply ag_ | apply ah_)⟩
  have b7 : (k == 7) = false := by simp [h7]
  have e : bindsI k i = 0 := by simp [bindsI, h3, h7]
  rw [e]
  clear e h3 h7
  go_enter Try.func128, Try.ntmps128
  go_wp2
  go_ret
  exact ⟨rfl, by repeat (first | exact Below.refl _ _ | apply ag_ | apply ah_)⟩
end Go.Proofs.Ytgoiifpimpnlpaa.PAll

end

section
namespace Go.Proofs.Ytgoiifpimpnlpaa.PAll
open Go.RowKit Go.Proofs.YtgoiifpimpnlpaaW.PrintWords Go.Proofs.YtgoiifpimpnlpaaW.PrintLast Go.Proofs.YtgoiifpimpnlpaaW.PrintMore
set_option linter.unusedVariables false
set_option linter.unusedSimpArgs false
def engC (A : Option Addr) (n c gs gb : Nat) : Array Value := #[.slice A n c, .slice (some ⟨gs, 0, none⟩) n n, .slice (some ⟨gb, 0, none⟩) n n, .bool false, .int .i64 0, .int .i64 (-1), .int .i64 (-1), .slice none 0 0, .slice none 0 0, .slice none 0 0, .bool false]
def EngSt (ge gs gb : Nat) (A : Option Addr) (n c : Nat) (W : World) : Prop :=
  W.heap[ge]? = some (.cells (engC A n c gs gb) 108 (0, 0)) ∧ (∃ arr, W.heap[gs]? = some (.cells arr 3 (0, 0)) ∧ arr.size = n) ∧ (∃ arr, W.heap[gb]? = some (.cells arr 3 (0, 0)) ∧ arr.size = n) ∧ gs ≠ gb
theorem EngSt.below {ge gs gb : Nat} {A : Option Addr} {n c : Nat} {W W' : World} (h : EngSt ge gs gb A n c W) (hb : Below W.heap.size W W') : EngSt ge gs gb A n c W' := by
  obtain ⟨h1, ⟨a2, h2, s2⟩, ⟨a3, h3, s3⟩, hne⟩ := h
  exact ⟨blk_below h1 hb, ⟨a2, blk_below h2 hb, s2⟩, ⟨a3, blk_below h3 hb, s3⟩, hne⟩
theorem EngSt.set {ge gs gb g i : Nat} {A : Option Addr} {n c : Nat} {W : World} {v : Value} (h : EngSt ge gs gb A n c W) (hg : g = gs ∨ g = gb) : EngSt ge gs gb A n c (W.setCell ⟨g, i, none⟩ v) := by
  obtain ⟨h1, ⟨a2, h2, s2⟩, ⟨a3, h3, s3⟩, hne⟩ := h
  have n2 : ge ≠ gs := blk_ne h1 h2 (by decide)
  have n3 : ge ≠ gb := blk_ne h1 h3 (by decide)
  rcases hg with rfl | rfl
  · exact ⟨blk_far h1 (p := ⟨g, i, none⟩) n2 v, ⟨_, blk_set h2 i v, by simpa using s2⟩, ⟨a3, blk_far h3 (p := ⟨g, i, none⟩) (fun e => hne e.symm) v, s3⟩, hne⟩
  · exact ⟨blk_far h1 (p := ⟨g, i, none⟩) n3 v, ⟨a2, blk_far h2 (p := ⟨g, i, none⟩) hne v, s2⟩, ⟨_, blk_set h3 i v, by simpa using s3⟩, hne⟩
theorem EngSt.cell {ge gs gb : Nat} {A : Option Addr} {n c : Nat} {W : World} (h : EngSt ge gs gb A n c W) : W.cell? ⟨ge, 0, none⟩ = some (.slice A n c) ∧ W.cell? ⟨ge, 1, none⟩ = some (.slice (some ⟨gs, 0, none⟩) n n) ∧ W.cell? ⟨ge, 2, none⟩ = some (.slice (some ⟨gb, 0, none⟩) n n) :=
  ⟨(am_ h.1 0).trans rfl, (am_ h.1 1).trans rfl, (am_ h.1 2).trans rfl⟩
theorem EngSt.gs {ge gs gb : Nat} {A : Option Addr} {n c : Nat} {W : World} (h : EngSt ge gs gb A n c W) {i : Nat} (hi : i < n) : (∃ v, W.cell? ⟨gs, i, none⟩ = some v) ∧ W.frozen? ⟨gs, i, none⟩ = false := by
  obtain ⟨_, ⟨a2, h2, s2⟩, _, _⟩ := h
  exact ⟨⟨_, (am_ h2 i).trans (Array.getElem?_eq_getElem (by omega))⟩, al_ h2 i⟩
theorem EngSt.gb {ge gs gb : Nat} {A : Option Addr} {n c : Nat} {W : World} (h : EngSt ge gs gb A n c W) {i : Nat} (hi : i < n) : (∃ v, W.cell? ⟨gb, i, none⟩ = some v) ∧ W.frozen? ⟨gb, i, none⟩ = false := by
  obtain ⟨_, _, ⟨a2, h2, s2⟩, _⟩ := h
  exact ⟨⟨_, (am_ h2 i).trans (Array.getElem?_eq_getElem (by omega))⟩, al_ h2 i⟩
theorem EngSt.gs_set {ge gs gb : Nat} {A : Option Addr} {n c : Nat} {W : World} (h : EngSt ge gs gb A n c W) {i : Nat} (hi : i < n) (v : Value) : (W.setCell ⟨gs, i, none⟩ v).cell? ⟨gs, i, none⟩ = some v := by
  obtain ⟨_, ⟨a2, h2, s2⟩, _, _⟩ := h
  rw [am_ (blk_set h2 i v) i, Array.getElem?_setIfInBounds_self_of_lt (by omega)]
theorem cnts_take_succ : ∀ (ts : List Tm) (i : Nat) (t : Tm), ts[i]? = some t → cnts (ts.take (i + 1)) = cnts (ts.take i) + t.cnt
  | [], i, t, h => by simp at h
  | a :: ts, 0, t, h => by simp at h; subst h; simp [cnts]
  | a :: ts, i + 1, t, h => by
    simp only [List.getElem?_cons_succ] at h
    have := cnts_take_succ ts i t h
    simp only [List.take_succ_cons, cnts]
    omega
theorem cnts_take_le' : ∀ (ts : List Tm) (i : Nat) (t : Tm), ts[i]? = some t → cnts (ts.take i) + t.cnt ≤ cnts ts
  | [], i, t, h => by simp at h
  | a :: ts, 0, t, h => by simp at h; subst h; simp [cnts]
  | a :: ts, i + 1, t, h => by
    simp only [List.getElem?_cons_succ] at h
    have := cnts_take_le' ts i t h
    simp only [List.take_succ_cons, cnts]
    omega
def MsP (W0 : World) (ge gs gb : Nat) (A : Option Addr) (n c p m : Nat) (e : Ending) (W' : World) : Prop := e = .returned (.tuple #[]) ∧ EngSt ge gs gb A n c W' ∧ Below W0.heap.size W0 W' ∧ W'.cell? ⟨gs, p, none⟩ = some (.int .i64 m)
set_option maxRecDepth 100000 in
set_option maxHeartbeats 4000000 in
theorem measure_calls (l : List S66) (W0 : World) (ge gs gb : Nat) (A : Option Addr) (c : Nat) (hl : l.length ≤ 1000) (hr : Kd.C k66 W0 A l.length l) (hge : W0.heap.size ≤ ge) (hgs : W0.heap.size ≤ gs) (hgb : W0.heap.size ≤ gb) (t : Tm) :
    ∀ (p : Nat) (bnd : Int) (r : List S66) (W : World), t.wf → l.drop p = tcells t ++ r → 0 ≤ bnd → bnd + t.cnt ≤ 1000000000 → EngSt ge gs gb A l.length c W → Below W0.heap.size W0 W →
    Calls Try.prog 123 #[ptr ge, .int .i64 p, .int .i64 bnd] W (MsP W0 ge gs gb A l.length c p t.cnt) := by
  have HR := Lib.hid hr
  clear hr
  induction t using Tm.ind with
  | h k n ks ih =>
    intro p bnd r W hw hd hb0 hb1 hE hB
    simp only [Tm.wf] at hw
    rw [cnt_mk] at hb1
    rw [tcells_mk, List.cons_append] at hd
    have hk3 : ks.length ≤ 3 := by have := arI_bd k; omega
    have hdl := congrArg List.length hd
    rw [List.length_drop, List.length_cons, List.length_append, lcells_len] at hdl
    have hpl : p < l.length := by omega
    have hrd : rd_T66 l (p : Int) = ⟨k, n⟩ := by
      have e := List.drop_eq_getElem_cons hpl
      rw [hd] at e
      injection e with e1 _
      simp [rd_T66, List.getD_eq_getElem?_getD, List.getElem?_eq_getElem hpl, ← e1]
    have hrC := Kd.C_below HR.out hB
    obtain ⟨ad, rfl, hk, _⟩ := at_T66 HR.out (p : Int) (by omega) (by omega)
    rw [hrd, Int.toNat_natCast] at hk
    have hkW : ∀ W', Below W0.heap.size W0 W' → W'.cell? (ad.add (p * 2)) = some (.int .i64 k) := fun W' hb => (hb.cell (aa_ W0 _ hk)).trans hk
    have hE1 : EngSt ge gs gb (some ad) l.length c (W.setCell ⟨gb, p, none⟩ (.int .i64 bnd)) := hE.set (.inr rfl)
    have hB1 : Below W0.heap.size W0 (W.setCell ⟨gb, p, none⟩ (.int .i64 bnd)) := af_ hB hgb
    obtain ⟨e0, e1, e2⟩ := hE.cell
    obtain ⟨⟨vb, x0⟩, x1⟩ := hE.gb hpl
    obtain ⟨f0, f1, f2⟩ := hE1.cell
    have fk := hkW _ hB1
    have hpi : (p : Int) < (l.length : Int) := by omega
    have HE1 := Lib.hid hE1
    have HB1 := Lib.hid hB1
    have HKW := Lib.hid hkW
    have HD := Lib.hid hd
    have HWS := Lib.hid hw.2
    have HAR := Lib.hid hw.1
    have IH := Lib.hid ih
    clear hE hB hE1 hB1 hkW hd hw ih hk hrd hrC
    rw [cnt_mk]
    unfold ptr MsP
    go_enter Try.func123, Try.ntmps123
    go_wp2_with (go_at_call 92; refine (kidsOf_calls _ _).mono ?_; rintro e w' ⟨rfl, rfl⟩)
    rw [HAR.out]
    have HST := Lib.hid (show EngSt ge gs gb (some ad) l.length c (W.setCell ⟨gb, p, none⟩ (.int .i64 bnd)) ∧ Below W0.heap.size W0 (W.setCell ⟨gb, p, none⟩ (.int .i64 bnd)) from ⟨HE1.out, HB1.out⟩)
    clear e0 e1 e2 x0 x1 f0 f1 f2 fk
    go_loopw [6, 7, 26] (fun v6 v7 v26 wr => ∃ j : Nat, j ≤ ks.length ∧ v26 = .int .i64 j ∧ v6 = .int .i64 ((p : Int) + 1 + (cnts (ks.take j) : Int)) ∧ EngSt ge gs gb (some ad) l.length c wr ∧ Below W0.heap.size W0 wr) (fun _ _ v26 _ => ks.length - (intOf v26).toNat)
    case atStart => exact ⟨0, Nat.zero_le _, rfl, by simp [cnts], HST.out.1, HST.out.2⟩
    case round =>
      obtain ⟨j, hj, rfl, rfl, hE, hB⟩ := hrel
      clear HST
      by_cases hlt : j < ks.length
      · obtain ⟨t, ht⟩ : ∃ t, ks[j]? = some t := ⟨ks[j], by simp [hlt]⟩
        have hmem := List.mem_of_getElem? ht
        have hcn := cnts_take_le' ks j t ht
        have htk := cnts_take_succ ks j t ht
        have hbi := bindsI_bd k j
        obtain ⟨q, hq⟩ : ∃ q : Nat, q = p + 1 + cnts (ks.take j) := ⟨_, rfl⟩
        have hqi : (p : Int) + 1 + (cnts (ks.take j) : Int) = (q : Int) := by omega
        have hqd : l.drop q = tcells t ++ (lcells (ks.drop (j + 1)) ++ r) := by
          have e1 : l.drop q = (l.drop p).drop (1 + cnts (ks.take j)) := by rw [List.drop_drop, hq]; congr 1; omega
          have e2 : lcells ks = lcells (ks.take j) ++ (tcells t ++ lcells (ks.drop (j + 1))) := by
            have hlt' : j < ks.length := hlt
            rw [List.getElem?_eq_getElem hlt'] at ht
            have : ks = ks.take j ++ (t :: ks.drop (j + 1)) := by
              rw [← Option.some.inj ht, ← List.drop_eq_getElem_cons hlt', List.take_append_drop]
            conv => lhs; rw [this]
            rw [lcells_append]
            simp [lcells]
          rw [e1, HD.out, Nat.add_comm 1, List.drop_succ_cons, e2, List.append_assoc, List.drop_left' (by rw [lcells_len]), List.append_assoc]
        rw [hqi]
        have hql : q < l.length := by
          have := congrArg List.length hqd
          have := cnt_pos t
          rw [List.length_drop, List.length_append, tcells_len] at *
          omega
        have C := Lib.hid (fun (W1 : World) (hb : Below wr.heap.size wr W1) => IH.out t hmem q (bnd + bindsI k j) (lcells (ks.drop (j + 1)) ++ r) W1 (wfs_get HWS.out t hmem) hqd (by omega) (by omega) (hE.below hb) (ao_ hB hb))
        obtain ⟨f0, _, _⟩ := hE.cell
        have fk := HKW.out wr hB
        have hqi2 : (q : Int) < (l.length : Int) := by omega
        have HQ := Lib.hid hq
        have HTK := Lib.hid htk
        have hp9 : p ≤ 1000 := by omega
        have hq9 : q ≤ 1000 := by omega
        unfold ptr MsP at C
        clear ht hmem hqd hE hB hq htk hqi
        go_wp2_with fail
        refine (binds_calls k j _).mono ?_
        rintro e w1 ⟨rfl, hb1⟩
        have HB1' := Lib.hid hb1
        clear hb1
        go_wp2_with fail
        refine (C.out w1 HB1'.out).mono ?_
        rintro e w2 ⟨rfl, hE2, hB2, hc2⟩
        obtain ⟨_, g1, _⟩ := hE2.cell
        have HE2 := Lib.hid hE2
        have HB2 := Lib.hid hB2
        clear hE2 hB2
        go_wp2
        go_roundw
        case rel => exact ⟨j + 1, by omega, by go_num, by rw [HTK.out, HQ.out]; go_num, HE2.out, HB2.out⟩
        case measure => simp [intOf]; omega
      · obtain rfl : j = ks.length := by omega
        rw [List.take_length]
        obtain ⟨_, f1, _⟩ := hE.cell
        obtain ⟨⟨vs, x0⟩, x1⟩ := hE.gs hpl
        have hE1 : EngSt ge gs gb (some ad) l.length c (wr.setCell ⟨gs, p, none⟩ (.int .i64 (1 + cnts ks : Nat))) := hE.set (.inl rfl)
        have hB1 : Below W0.heap.size W0 (wr.setCell ⟨gs, p, none⟩ (.int .i64 (1 + cnts ks : Nat))) := af_ hB hgs
        have hc1 := hE.gs_set hpl (.int .i64 (1 + cnts ks : Nat))
        have HE := Lib.hid hE1
        have HB := Lib.hid hB1
        have HC := Lib.hid hc1
        have hsum : (p : Int) + 1 + (cnts ks : Int) - (p : Int) = ((1 + cnts ks : Nat) : Int) := by omega
        have HSUM := Lib.hid hsum
        clear hE1 hB1 hc1 hE hB hsum
        go_wp2
        rw [HSUM.out]
        go_end0
        exact ⟨rfl, HE.out, HB.out, HC.out⟩
end Go.Proofs.Ytgoiifpimpnlpaa.PAll

end

section
namespace Go.Proofs.Ytgoiifpimpnlpaa.PAll
open Go.RowKit Go.Proofs.YtgoiifpimpnlpaaW.PrintWords Go.Proofs.YtgoiifpimpnlpaaW.PrintLast Go.Proofs.YtgoiifpimpnlpaaW.PrintMore
set_option linter.unusedVariables false
set_option linter.unusedSimpArgs false
def freeL (n b : Int) : List Int := if b ≤ n then [n - b] else []
mutual
/-- The variables that are bound nowhere, as they come. -/
def freeT : Tm → Int → List Int
  | .mk k n ks, b => if k = 1 then freeL n b else freeK k 0 ks b
def freeK (k : Int) : Nat → List Tm → Int → List Int
  | _, [], _ => []
  | i, t :: ts, b => freeT t (b + bindsI k i) ++ freeK k (i + 1) ts b
end
theorem freeT_mk (k n : Int) (ks : List Tm) (b : Int) : freeT (.mk k n ks) b = if k = 1 then freeL n b else freeK k 0 ks b := by simp [freeT]
theorem freeK_take_succ (k : Int) (b : Int) : ∀ (ts : List Tm) (s i : Nat) (t : Tm), ts[i]? = some t → freeK k s (ts.take (i + 1)) b = freeK k s (ts.take i) b ++ freeT t (b + bindsI k (s + i))
  | [], s, i, t, h => by simp at h
  | a :: ts, s, 0, t, h => by simp at h; subst h; simp [freeK]
  | a :: ts, s, i + 1, t, h => by
    simp only [List.getElem?_cons_succ] at h
    simp only [List.take_succ_cons, freeK, List.append_assoc]
    rw [freeK_take_succ k b ts (s + 1) i t h, show s + 1 + i = s + (i + 1) by omega]
theorem freeL_len (n b : Int) : (freeL n b).length ≤ 1 := by unfold freeL; split <;> simp
theorem freeT_len (t : Tm) : ∀ b, (freeT t b).length ≤ t.cnt := by
  refine (Tm.ind2 (P := fun t => ∀ b, (freeT t b).length ≤ t.cnt) (Q := fun ts => ∀ k i b, (freeK k i ts b).length ≤ cnts ts) ?_ ?_ ?_).1 t
  · intro k n ks h b
    rw [freeT_mk, cnt_mk]
    split
    · have := freeL_len n b; omega
    · have := h k 0 b; omega
  · intro k i b; simp [freeK]
  · intro t ts h1 h2 k i b
    have := h1 (b + bindsI k i)
    have := h2 k (i + 1) b
    simp only [freeK, cnts, List.length_append]
    omega
theorem freeK_len (k : Int) (b : Int) : ∀ (ts : List Tm) (i : Nat), (freeK k i ts b).length ≤ cnts ts
  | [], i => by simp [freeK]
  | t :: ts, i => by
    have := freeT_len t (b + bindsI k i)
    have := freeK_len k b ts (i + 1)
    simp only [freeK, cnts, List.length_append]
    omega
theorem cnts_take_le : ∀ (ts : List Tm) (i : Nat) (t : Tm), ts[i]? = some t → cnts (ts.take i) + t.cnt ≤ cnts ts
  | [], i, t, h => by simp at h
  | a :: ts, 0, t, h => by simp at h; subst h; simp [cnts]
  | a :: ts, i + 1, t, h => by
    simp only [List.getElem?_cons_succ] at h
    have := cnts_take_le ts i t h
    simp only [List.take_succ_cons, cnts]
    omega
def FrF (B : Nat) (W W' : World) : Prop := W.heap.size ≤ W'.heap.size ∧ (∀ k, k < B → W'.heap[k]? = W.heap[k]?) ∧ (∀ (k : Nat) (cells : Array Value) (ty : TypeId), W.heap[k]? = some (.cells cells ty (0, 0)) → (ty = 69 ∨ ty = 80) → W'.heap[k]? = W.heap[k]?) ∧ W'.os = W.os ∧ W'.tape = W.tape ∧ W'.output = W.output
theorem FrF.of_below {B : Nat} {W W' : World} (hB : B ≤ W.heap.size) (h : Below W.heap.size W W') : FrF B W W' := ⟨h.size, fun k hk => h.block k (by omega), fun k cells ty hc _ => h.block k (blk_lt hc), h.os, h.tape, h.output⟩
theorem FrF.refl {B : Nat} {W : World} : FrF B W W := ⟨Nat.le_refl _, fun _ _ => rfl, fun _ _ _ _ _ => rfl, rfl, rfl, rfl⟩
theorem FrF.trans {B : Nat} {W W1 W2 : World} (h1 : FrF B W W1) (h2 : FrF B W1 W2) : FrF B W W2 :=
  ⟨Nat.le_trans h1.1 h2.1, fun k hk => (h2.2.1 k hk).trans (h1.2.1 k hk), fun k cells ty hc ht => (h2.2.2.1 k cells ty ((h1.2.2.1 k cells ty hc ht).trans hc) ht).trans (h1.2.2.1 k cells ty hc ht), h2.2.2.2.1.trans h1.2.2.2.1, h2.2.2.2.2.1.trans h1.2.2.2.2.1, h2.2.2.2.2.2.trans h1.2.2.2.2.2⟩
theorem FrF.below {B : Nat} {W W' : World} (h : FrF B W W') : Below B W W' := ⟨h.2.2.2.1, h.2.2.2.2.1, h.2.2.2.2.2, h.1, h.2.1⟩
theorem FrF.set {B : Nat} {W W' : World} (h : FrF B W W') {b j : Nat} {v : Value} (hb : W.heap.size ≤ b) (hB : B ≤ b) : FrF B W (W'.setCell ⟨b, j, none⟩ v) := by
  have hk : ∀ k, k ≠ b → (W'.setCell ⟨b, j, none⟩ v).heap[k]? = W'.heap[k]? := fun k hk => Below.heap_setCell W' ⟨b, j, none⟩ v k hk
  have hs : (W'.setCell ⟨b, j, none⟩ v).heap.size = W'.heap.size := by simp
  exact ⟨by rw [hs]; exact h.1, fun k hkB => (hk k (by omega)).trans (h.2.1 k hkB), fun k cells ty hc ht => (hk k (by have := blk_lt hc; omega)).trans (h.2.2.1 k cells ty hc ht), h.2.2.2.1, h.2.2.2.2.1, h.2.2.2.2.2⟩
def SzAt (W : World) (g : Nat) : Prop := ∃ (c0 c1 c2 : Value) (s : Int), W.heap[g]? = some (.cells #[c0, c1, c2, .int .i64 s] 80 (0, 0)) ∧ 1 ≤ s ∧ s ≤ 1000000
theorem SzAt.cell {W : World} {g : Nat} (h : SzAt W g) : ∃ s : Int, W.cell? ⟨g, 3, none⟩ = some (.int .i64 s) ∧ 1 ≤ s ∧ s ≤ 1000000 := by
  obtain ⟨c0, c1, c2, s, hh, h1, h2⟩ := h
  exact ⟨s, (am_ hh 3).trans rfl, h1, h2⟩
theorem SzAt.frf {B : Nat} {W W' : World} {g : Nat} (h : SzAt W g) (hf : FrF B W W') : SzAt W' g := by
  obtain ⟨c0, c1, c2, s, hh, h1, h2⟩ := h
  exact ⟨c0, c1, c2, s, (hf.2.2.1 g _ _ hh (.inr rfl)).trans hh, h1, h2⟩
theorem SzAt.below {W W' : World} {g : Nat} (h : SzAt W g) (hb : Below W.heap.size W W') : SzAt W' g := by
  obtain ⟨c0, c1, c2, s, hh, h1, h2⟩ := h
  exact ⟨c0, c1, c2, s, (hb.block g (blk_lt hh)).trans hh, h1, h2⟩
theorem SzAt.set {W : World} {g b j : Nat} {arr : Array Value} {v : Value} (h : SzAt W g) (hb : W.heap[b]? = some (.cells arr 69 (0, 0))) : SzAt (W.setCell ⟨b, j, none⟩ v) g := by
  obtain ⟨c0, c1, c2, s, hh, h1, h2⟩ := h
  have hne : g ≠ b := by
    rintro rfl
    rw [hh] at hb
    injection hb with hb
    injection hb with _ hb
    cases hb
  exact ⟨c0, c1, c2, s, (Below.heap_setCell W ⟨b, j, none⟩ v g hne).trans hh, h1, h2⟩
theorem TAt.szAt {S : Nat → Prop} {W : World} {g : Nat} {t : Tm} (h : TAt S W g t) : SzAt W g := by
  cases t with
  | mk k n ks =>
    have hb := (Tm.mk k n ks).size_bd
    simp only [TAt] at h
    obtain ⟨A, c, gs, _, _, hh, _, _⟩ := h
    exact ⟨_, _, _, _, hh, hb.1, hb.2⟩
set_option maxRecDepth 100000 in
set_option maxHeartbeats 1000000 in
theorem newTermS_calls (k n : Int) (A : Option Addr) (c : Nat) (gs : List Nat) (w : World) (hn : gs.length ≤ 1000) (hc : gs.length ≤ c) (hr : ∀ (i p : Nat), gs[i]? = some p → ∃ ad, A = some ad ∧ w.cell? (ad.add i) = some (ptr p)) (hl : ∀ p ∈ gs, SzAt w p) :
    Calls Try.prog 93 #[.int .i64 k, .int .i64 n, .slice A gs.length c] w fun e w' => ∃ g, e = .returned (ptr g) ∧ SzAt w' g ∧ Below w.heap.size w w' := by
  have HR := Lib.hid hr
  have HL := Lib.hid hl
  clear hr hl
  go_enter Try.func93, Try.ntmps93
  go_wp2
  go_loopw [7, 9, 12] (fun v7 v9 v12 wr => ∃ (i : Nat) (s : Int), i ≤ gs.length ∧ v12 = .int .i64 i ∧ v7 = .int .i64 s ∧ 1 ≤ s ∧ s ≤ 1 + 1000000 * i ∧ wr = w) (fun _ _ v12 _ => gs.length - (intOf v12).toNat)
  case atStart => exact ⟨0, 1, Nat.zero_le _, rfl, rfl, by omega, by omega, rfl⟩
  case round =>
    obtain ⟨i, s, hi, rfl, rfl, hs1, hs2, rfl⟩ := hrel
    by_cases hlt : i < gs.length
    · obtain ⟨g, hg⟩ : ∃ g, gs[i]? = some g := ⟨gs[i], by simp [hlt]⟩
      obtain ⟨ad, rfl, hcell⟩ := HR.out i g hg
      obtain ⟨z, hsz, hz1, hz2⟩ := (HL.out g (List.mem_of_getElem? hg)).cell
      unfold ptr at hcell
      clear hg
      go_wp2
      go_roundw
      case rel => exact ⟨i + 1, s + z, by omega, by go_num, rfl, by omega, by omega, by trivial⟩
      case measure => simp [intOf]; omega
    · obtain rfl : i = gs.length := by omega
      by_cases hcap : 1000000 < s
      · go_wp2
        go_ret
        exact ⟨_, rfl, ⟨_, _, _, _, blk_new _ _, by omega, by omega⟩, ai_ (Below.refl _ _) _⟩
      · go_wp2
        go_ret
        exact ⟨_, rfl, ⟨_, _, _, _, blk_new _ _, by omega, by omega⟩, ai_ (Below.refl _ _) _⟩
def CloF (fn : Nat) (caps : Array Value) (Inv : List Int → World → Prop) (B M : Nat) (NB D : Int) : Prop :=
  ∀ (L : List Int) (W : World) (g : Nat) (n b : Int), 0 ≤ n → n ≤ NB → 0 ≤ b → b ≤ D → L.length < M → Inv L W → B ≤ W.heap.size → TAt (fun x => x < B) W g (tvar n) →
    Calls Try.prog fn (#[ptr g, .int .i64 b] ++ caps) W fun e W' => e = .returned (ptr g) ∧ Inv (L ++ freeL n b) W' ∧ FrF B W W'
def MidF (Inv : List Int → World → Prop) (B : Nat) (L : List Int) (k bnd : Int) (ks : List Tm) (b : Nat) (w wr : World) (j : Nat) : Prop :=
  ∃ (gs : List Nat) (arr : Array Value), wr.heap[b]? = some (.cells arr 69 (0, 0)) ∧ arr.size = ks.length ∧ gs.length = j ∧ (∀ i p : Nat, gs[i]? = some p → arr[i]? = some (ptr p)) ∧ (∀ p ∈ gs, SzAt wr p) ∧ Inv (L ++ freeK k 0 (ks.take j) bnd) wr ∧ FrF B w wr
theorem MidF_step {Inv : List Int → World → Prop} {B : Nat} {L : List Int} {k bnd : Int} {ks : List Tm} {b : Nat} {w wr w2 : World} {j : Nat} {t : Tm} {gs : List Nat} {arr : Array Value} {g : Nat}
    (hI2 : ∀ L W b arr j v, Inv L W → W.heap[b]? = some (.cells arr 69 (0, 0)) → Inv L (W.setCell ⟨b, j, none⟩ v))
    (ht : ks[j]? = some t) (hblk : wr.heap[b]? = some (.cells arr 69 (0, 0))) (hsz : arr.size = ks.length) (hgl : gs.length = j) (harr : ∀ i p : Nat, gs[i]? = some p → arr[i]? = some (ptr p)) (hL : ∀ p ∈ gs, SzAt wr p) (hBw : FrF B w wr) (hwb : w.heap.size ≤ b) (hB : B ≤ b) (hf : FrF B wr w2) (hT : SzAt w2 g) (hinv : Inv (L ++ freeK k 0 (ks.take j) bnd ++ freeT t (bnd + bindsI k j)) w2) :
    MidF Inv B L k bnd ks b w (w2.setCell ⟨b, j, none⟩ (ptr g)) (j + 1) := by
  have hj : j < ks.length := by
    rcases Nat.lt_or_ge j ks.length with h | h
    · exact h
    · rw [List.getElem?_eq_none h] at ht; cases ht
  have hblk2 : w2.heap[b]? = some (.cells arr 69 (0, 0)) := (hf.2.2.1 b _ _ hblk (.inl rfl)).trans hblk
  refine ⟨gs ++ [g], arr.setIfInBounds j (ptr g), blk_set hblk2 j _, by simpa using hsz, by simp [hgl], ?_, ?_, ?_, (hBw.trans hf).set hwb hB⟩
  · intro i p hp
    by_cases hi : i < gs.length
    · rw [List.getElem?_append_left hi] at hp
      rw [Array.getElem?_setIfInBounds_ne (by omega)]
      exact harr i p hp
    · rw [List.getElem?_append_right (by omega)] at hp
      have e : i - gs.length = 0 := by
        rcases Nat.eq_zero_or_pos (i - gs.length) with h | h
        · exact h
        · rw [List.getElem?_eq_none (by simp; omega)] at hp; cases hp
      rw [e] at hp
      simp at hp
      subst hp
      obtain rfl : i = j := by omega
      rw [Array.getElem?_setIfInBounds_self_of_lt (by omega)]
  · intro p hp
    rcases List.mem_append.1 hp with hp | hp
    · exact ((hL p hp).frf hf).set hblk2
    · rw [List.mem_singleton.1 hp]
      exact hT.set hblk2
  · rw [freeK_take_succ k bnd ks 0 j t ht, Nat.zero_add, ← List.append_assoc]
    exact hI2 _ _ _ _ _ _ hinv hblk2
def ChP (Inv : List Int → World → Prop) (B : Nat) (L : List Int) (w : World) (e : Ending) (w' : World) : Prop := ∃ r, e = .returned (ptr r) ∧ SzAt w' r ∧ Inv L w' ∧ FrF B w w'
set_option maxRecDepth 100000 in
set_option maxHeartbeats 2000000 in
theorem changeF_calls (fn : Nat) (caps : Array Value) (Inv : List Int → World → Prop) (B M : Nat) (NB D : Int) (hD : D ≤ 1000000000000) (hen : ∀ args W, (callFunc fn args).run Try.prog W = .ok (.enter fn args) W) (hf : CloF fn caps Inv B M NB D) (hI : ∀ L W W', Inv L W → Below W.heap.size W W' → Inv L W') (hI2 : ∀ L W b arr j v, Inv L W → W.heap[b]? = some (.cells arr 69 (0, 0)) → Inv L (W.setCell ⟨b, j, none⟩ v)) (t : Tm) :
    ∀ (L : List Int) (g : Nat) (w : World) (bnd : Int), 0 ≤ bnd → bnd + t.cnt ≤ D → t.vb NB → t.wf → L.length + t.cnt ≤ M → TAt (fun x => x < B) w g t → B ≤ w.heap.size → Inv L w →
    Calls Try.prog 102 #[ptr g, .int .i64 bnd, .func (.func fn) #[] caps] w (ChP Inv B (L ++ freeT t bnd) w) := by
  have HF := Lib.hid hf
  have HI := Lib.hid hI
  have HI2 := Lib.hid hI2
  clear hf hI hI2
  induction t using Tm.ind with
  | h k n ks ih =>
  intro L g w bnd hb0 hbD hv hw hM hT hBw hinv
  rw [vb_mk] at hv
  rw [cnt_mk] at hbD hM
  rw [freeT_mk]
  simp only [Tm.wf] at hw
  obtain ⟨hk, hws⟩ := hw
  obtain ⟨A, c, gs, hc, c0, c1, c2, c3, hrow, hl⟩ := hT.cells
  have HTT := Lib.hid hT
  have HINV := Lib.hid hinv
  clear hT hinv
  by_cases h1 : k = 1
  · rw [if_pos h1]
    have hks : ks = [] := by rw [h1] at hk; simp [arI] at hk; exact List.length_eq_zero_iff.1 (by omega)
    subst h1 hks
    have hv1 := hv.1 rfl
    obtain ⟨n0, nB⟩ := hv1
    have C := Lib.hid (HF.out L w g n bnd n0 nB hb0 (by omega) (by omega) HINV.out hBw HTT.out)
    have HSZ := Lib.hid HTT.out.szAt
    unfold ptr at C
    unfold ChP ptr
    clear hv hk hws hrow hl ih HTT HF
    go_enter Try.func102, Try.ntmps102
    go_wp2_with ((with_reducible refine C.out.mono ?_); rintro e w' ⟨rfl, hr, hb⟩; have HR := Lib.hid hr; have HB := Lib.hid hb; clear hr hb)
    go_ret
    exact ⟨g, rfl, HSZ.out.frf HB.out, HR.out, HB.out⟩
  rw [if_neg h1]
  have b1 : (k == 1) = false := by simp [h1]
  have hv := hv.2
  clear h1
  rcases Nat.eq_zero_or_pos ks.length with h0 | hpos
  · obtain rfl := List.length_eq_zero_iff.1 h0
    simp only [freeK, List.append_nil]
    have HSZ := Lib.hid HTT.out.szAt
    unfold ChP ptr
    have c2 : w.cell? ⟨g, 2, none⟩ = some (.slice A 0 c) := c2
    clear hk hws hrow hl ih HF hv h0 HTT
    go_enter Try.func102, Try.ntmps102
    go_wp2
    go_ret
    exact ⟨g, rfl, HSZ.out, HINV.out, FrF.refl⟩
  ·
    have hk3 : ks.length ≤ 3 := by have := arI_bd k; omega
    have bl : ((ks.length : Int) == 0) = false := by rw [beq_eq_false_iff_ne]; omega
    have hmk : ∀ W, (Instr.makeSlice 78 (.int .i64 (ks.length : Int)) (.int .i64 (ks.length : Int))).run Try.prog W = .ok (.slice (some ⟨W.heap.size, 0, none⟩) ks.length ks.length) (W.alloc (.cells (madeCells #[.pointer none] ks.length) 69)) := run_make_row' 78 69 (.pointer none) 8 Try.underlying78 info69 rfl .i64 .i64 ks.length (by omega) (by omega)
    have k2 : ∀ o, (w.alloc o).cell? ⟨g, 2, none⟩ = some (.slice A ks.length c) := fun o => (World.cell?_alloc_lt _ _ _ (aa_ w _ c2)).trans c2
    have IH := Lib.hid ih
    have HWS := Lib.hid hws
    have HV := Lib.hid hv
    have HROW := Lib.hid hrow
    have HL := Lib.hid hl
    clear ih hws hv hrow hl hk
    unfold ChP ptr
    go_enter Try.func102, Try.ntmps102
    go_wp2
    obtain ⟨b, hbb⟩ : ∃ b, b = w.heap.size := ⟨_, rfl⟩
    rw [← hbb]
    have hwb : w.heap.size ≤ b := by omega
    have hBb : B ≤ b := by omega
    have hM0 : MidF Inv B L k bnd ks b w (w.alloc (.cells (madeCells #[.pointer none] ks.length) 69)) 0 := ⟨[], madeCells #[.pointer none] ks.length, by rw [hbb]; exact blk_new w _, size_madeCells _ _, rfl, by simp, by simp, by simpa [freeK] using HI.out _ _ _ HINV.out (ai_ (Below.refl _ _) _), FrF.of_below hBw (ai_ (Below.refl _ _) _)⟩
    have HM := Lib.hid hM0
    have HBB := Lib.hid hbb
    clear hM0 hbb hmk k2
    go_loopw [8, 9, 37] (fun v8 v9 v37 wr => ∃ j : Nat, j ≤ ks.length ∧ v37 = .int .i64 j ∧ MidF Inv B L k bnd ks b w wr j) (fun _ _ v37 _ => ks.length - (intOf v37).toNat)
    case atStart => exact ⟨0, Nat.zero_le _, rfl, HM.out⟩
    case round =>
      obtain ⟨j, hj, rfl, gs2, arr, hblk, hsz, hgl, harr, hL2, hinv, hBwr⟩ := hrel
      clear HM
      have hblt := blk_lt hblk
      have d0 : wr.cell? ⟨g, 0, none⟩ = some (.int .i64 k) := by
        obtain ⟨A', c', gs', _, _, hh, _, _⟩ := (show _ from by have := HTT.out; simp only [TAt] at this; exact this)
        exact (am_ ((hBwr.2.2.1 g _ _ hh (.inr rfl)).trans hh) 0).trans rfl
      have d1 : wr.cell? ⟨g, 1, none⟩ = some (.int .i64 n) := by
        obtain ⟨A', c', gs', _, _, hh, _, _⟩ := (show _ from by have := HTT.out; simp only [TAt] at this; exact this)
        exact (am_ ((hBwr.2.2.1 g _ _ hh (.inr rfl)).trans hh) 1).trans rfl
      by_cases hlt : j < ks.length
      · obtain ⟨t, ht⟩ : ∃ t, ks[j]? = some t := ⟨ks[j], by simp [hlt]⟩
        have hmem := List.mem_of_getElem? ht
        obtain ⟨qg, hqg, hTq⟩ := LAt.get HL.out ht
        obtain ⟨ad, rfl, hSa, hcell⟩ := HROW.out j qg hqg
        have eb : (ad.add j).block = ad.block := by unfold Addr.add; split <;> simp_all
        have hcell : wr.cell? (ad.add j) = some (ptr qg) := by
          have := hBwr.2.1 ad.block hSa
          have e2 : wr.cell? (ad.add j) = w.cell? (ad.add j) := by simp [World.cell?, eb, this]
          rw [e2]; exact hcell
        have hcnt := cnts_take_le ks j t ht
        have hfk := freeK_len k bnd (ks.take j) 0
        have hbi := bindsI_bd k j
        have hTs : TAt (fun x => x < B) wr qg t := TAt.step (fun x hx _ => hBwr.2.1 x hx) (fun x hx _ => hx) hTq
        have C := Lib.hid (fun (W : World) (hb2 : Below wr.heap.size wr W) => IH.out t hmem (L ++ freeK k 0 (ks.take j) bnd) qg W (bnd + bindsI k j) (by omega) (by omega) (vbs_get HV.out t hmem) (wfs_get HWS.out t hmem) (by simp only [List.length_append]; omega) (hTs.below hb2) (by have := hBwr.1; have := hb2.size; omega) (HI.out _ _ _ hinv hb2))
        have HX := Lib.hid ht
        have HBLK := Lib.hid hblk
        have HSZ := Lib.hid hsz
        have HGL := Lib.hid hgl
        have HARR := Lib.hid harr
        have HL2 := Lib.hid hL2
        obtain ⟨old, hold⟩ : ∃ old, arr[j]? = some old := ⟨arr[j]'(by have := HSZ.out; omega), by have := HSZ.out; simp⟩
        have HOLD := Lib.hid hold
        have HBW := Lib.hid hBwr
        unfold ptr at hcell
        unfold ChP ptr at C
        clear ht hblk hsz hgl harr hL2 hold hTs hTq hqg hSa hmem hBwr hinv
        go_wp2_with fail
        refine (binds_calls k j _).mono ?_
        rintro e w1 ⟨rfl, hb1⟩
        have HB1 := Lib.hid hb1
        clear hb1
        go_wp2_with fail
        refine (C.out w1 HB1.out).mono ?_
        rintro e w2 ⟨r, rfl, hr, hi2, hb2⟩
        have HR := Lib.hid hr
        have HIN2 := Lib.hid hi2
        have HF2 := Lib.hid ((FrF.of_below (Nat.le_trans hBw HBW.out.1) HB1.out).trans hb2)
        have hblk2 := Lib.hid ((HF2.out.2.2.1 b _ _ HBLK.out (.inl rfl)).trans HBLK.out)
        have hk2 : w2.cell? ⟨b, j, none⟩ = some old := (am_ hblk2.out j).trans HOLD.out
        have hf2 : w2.frozen? ⟨b, j, none⟩ = false := al_ hblk2.out j
        clear hr hb2 hi2
        go_wp2
        go_roundw
        case rel => exact ⟨j + 1, by omega, by go_num, MidF_step HI2.out HX.out HBLK.out HSZ.out HGL.out HARR.out HL2.out HBW.out hwb hBb HF2.out HR.out HIN2.out⟩
        case measure => simp [intOf]; omega
      · obtain rfl : j = ks.length := by omega
        rw [List.take_length] at hinv
        have hrow2 : ∀ (W : World), Below wr.heap.size wr W → ∀ (i x : Nat), gs2[i]? = some x → ∃ ad, (some (⟨b, 0, none⟩ : Addr)) = some ad ∧ W.cell? (ad.add i) = some (ptr x) := fun W hW i x hx => ⟨⟨b, 0, none⟩, rfl, by rw [add_plain]; exact (am_ ((hW.block b hblt).trans hblk) i).trans (harr i x hx)⟩
        have N := Lib.hid (fun (W : World) (hb2 : Below wr.heap.size wr W) => newTermS_calls k n (some ⟨b, 0, none⟩) ks.length gs2 W (by omega) (by omega) (hrow2 W hb2) (fun p hp => (hL2 p hp).below hb2))
        rw [hgl] at N
        have HBW := Lib.hid hBwr
        have HIN := Lib.hid hinv
        clear hL2 hrow2 harr hblk hsz hBwr hinv hgl
        go_wp2
        go_region_with (go_at_call 93; (with_reducible refine (N.out _ (by repeat (first | exact Below.refl _ _ | apply ag_ | apply ah_))).mono ?_); rintro e w3 ⟨r, rfl, hT, hb3⟩; have HR := Lib.hid hT; have HB3 := Lib.hid (ao_ (show Below wr.heap.size wr _ from by repeat (first | exact Below.refl _ _ | apply ag_ | apply ah_)) hb3); clear hT hb3; unfold ptr)
        all_goals go_wp2
        all_goals go_ret
        all_goals exact ⟨r, rfl, HR.out, HI.out _ _ _ HIN.out HB3.out, HBW.out.trans (FrF.of_below (Nat.le_trans hBw HBW.out.1) HB3.out)⟩
end Go.Proofs.Ytgoiifpimpnlpaa.PAll

end

section
namespace Go.Proofs.Ytgoiifpimpnlpaa.PAll
open Go.Shelf Go.RowKit Go.Lib Go.Sort
def lays189_ren : Go.Shelf.Ren := ⟨fun | 189 => 120 | 125 => 133 | 257 => 132 | 128 => 143 | 129 => 144 | 294 => 134 | 295 => 135 | 296 => 136 | 297 => 137 | 298 => 138 | 299 => 139 | 216 => 140 | 300 => 141 | 301 => 142 | 328 => 145 | 329 => 146 | 330 => 147 | 331 => 148 | 332 => 149 | 215 => 150 | 343 => 151 | n => n, fun | 28 => 46 | 3 => 3 | 46 => 133 | 0 => 0 | 51 => 169 | 53 => 171 | 4 => 4 | 183 => 162 | 182 => 161 | 131 => 29 | 5 => 5 | 9 => 9 | 218 => 172 | 222 => 176 | 228 => 179 | 229 => 180 | n => n, fun | n => n⟩
theorem lays189 : Go.Proofs.Lays.n189 Try.prog lays189_ren := {
  mixed := by kernel_rfl
  f125 := Try.func133.trans (congrArg some (by kernel_rfl))
  f128 := Try.func143.trans (congrArg some (by kernel_rfl))
  f129 := Try.func144.trans (congrArg some (by kernel_rfl))
  f189 := Try.func120.trans (congrArg some (by kernel_rfl))
  f215 := Try.func150.trans (congrArg some (by kernel_rfl))
  f216 := Try.func140.trans (congrArg some (by kernel_rfl))
  f257 := Try.func132.trans (congrArg some (by kernel_rfl))
  f294 := Try.func134.trans (congrArg some (by kernel_rfl))
  f295 := Try.func135.trans (congrArg some (by kernel_rfl))
  f296 := Try.func136.trans (congrArg some (by kernel_rfl))
  f297 := Try.func137.trans (congrArg some (by kernel_rfl))
  f298 := Try.func138.trans (congrArg some (by kernel_rfl))
  f299 := Try.func139.trans (congrArg some (by kernel_rfl))
  f300 := Try.func141.trans (congrArg some (by kernel_rfl))
  f301 := Try.func142.trans (congrArg some (by kernel_rfl))
  f328 := Try.func145.trans (congrArg some (by kernel_rfl))
  f329 := Try.func146.trans (congrArg some (by kernel_rfl))
  f330 := Try.func147.trans (congrArg some (by kernel_rfl))
  f331 := Try.func148.trans (congrArg some (by kernel_rfl))
  f332 := Try.func149.trans (congrArg some (by kernel_rfl))
  f343 := Try.func151.trans (congrArg some (by kernel_rfl))
  t0 := Try.underlying0
  a0 := Try.isAgg0
  z0 := Try.sizeOf0
  v0 := Try.zeroValue0
  t3 := Try.underlying3
  a3 := Try.isAgg3
  z3 := Try.sizeOf3
  v3 := Try.zeroValue3
  t4 := Try.underlying4
  a4 := Try.isAgg4
  z4 := Try.sizeOf4
  v4 := Try.zeroValue4
  t5 := Try.underlying5
  a5 := Try.isAgg5
  z5 := Try.sizeOf5
  v5 := Try.zeroValue5
  t9 := Try.underlying9
  a9 := Try.isAgg9
  z9 := Try.sizeOf9
  v9 := Try.zeroValue9
  t28 := Try.underlying46
  a28 := Try.isAgg46
  z28 := Try.sizeOf46
  v28 := Try.zeroValue46
  t46 := Try.underlying133
  a46 := Try.isAgg133
  z46 := Try.sizeOf133
  v46 := Try.zeroValue133
  t51 := Try.underlying169
  a51 := Try.isAgg169
  z51 := Try.sizeOf169
  v51 := Try.zeroValue169
  t53 := Try.underlying171
  a53 := Try.isAgg171
  z53 := Try.sizeOf171
  v53 := Try.zeroValue171
  t131 := Try.underlying29
  a131 := Try.isAgg29
  z131 := Try.sizeOf29
  v131 := Try.zeroValue29
  t182 := Try.underlying161
  a182 := Try.isAgg161
  z182 := Try.sizeOf161
  v182 := Try.zeroValue161
  t183 := Try.underlying162
  a183 := Try.isAgg162
  z183 := Try.sizeOf162
  v183 := Try.zeroValue162
  t218 := Try.underlying172
  a218 := Try.isAgg172
  z218 := Try.sizeOf172
  v218 := Try.zeroValue172
  t222 := Try.underlying176
  a222 := Try.isAgg176
  z222 := Try.sizeOf176
  v222 := Try.zeroValue176
  t228 := Try.underlying179
  a228 := Try.isAgg179
  z228 := Try.sizeOf179
  v228 := Try.zeroValue179
  t229 := Try.underlying180
  a229 := Try.isAgg180
  z229 := Try.sizeOf180
  v229 := Try.zeroValue180 }
theorem slices_Sort_int (blk off cap : Nat) (zs : List Int) (w : World) (hH : Holds (Value.int .i64) w blk off zs.toArray) (hblk : blk < w.heap.size) (hsz : zs.length < 4611686018427387904) :
    Calls Try.prog 120 #[.slice (some ⟨blk, off, none⟩) zs.length cap] w fun e w' =>
      e = .returned (.tuple #[]) ∧ ∃ n os, w' = grow (putRow (Value.int .i64) (Sort.ahead w n) blk off (zs.mergeSort fun x y => decide (x ≤ y)).toArray) os := Any.slices_Sort_int lays189 blk off cap zs w hH hblk hsz
def laysNm220_ren : Go.Shelf.Ren := ⟨fun | 20 => 121 | n => n, fun | 22 => 46 | 3 => 3 | 4 => 4 | 0 => 0 | n => n, fun | n => n⟩
theorem laysNm220 : Go.Proofs.Lays2.n20 Try.prog laysNm220_ren := {
  mixed := by kernel_rfl
  f20 := Try.func121.trans (congrArg some (by kernel_rfl))
  t0 := Try.underlying0
  a0 := Try.isAgg0
  z0 := Try.sizeOf0
  v0 := Try.zeroValue0
  t3 := Try.underlying3
  a3 := Try.isAgg3
  z3 := Try.sizeOf3
  v3 := Try.zeroValue3
  t4 := Try.underlying4
  a4 := Try.isAgg4
  z4 := Try.sizeOf4
  v4 := Try.zeroValue4
  t22 := Try.underlying46
  a22 := Try.isAgg46
  z22 := Try.sizeOf46
  v22 := Try.zeroValue46
  i3 := by kernel_rfl }
theorem slices_Compact_int (blk off cap : Nat) (zs : List Int) (w : World) (hH : Holds (Value.int .i64) w blk off zs.toArray) (hsz : zs.length ≤ 9223372036854775807) (hcap : zs.length ≤ cap) :
    Calls Try.prog 121 #[.slice (some ⟨blk, off, none⟩) zs.length cap] w fun e w' => e = .returned (.slice (some ⟨blk, off, none⟩) (Lib.compact zs).length cap) ∧ ∃ q, w' = putRow (Value.int .i64) (Sort.ahead w q) blk off (Lib.compact zs ++ List.replicate (zs.length - (Lib.compact zs).length) 0).toArray := Any.slices_Compact_int laysNm220 blk off cap zs w hH hsz hcap
end Go.Proofs.Ytgoiifpimpnlpaa.PAll

end

section
namespace Go.Proofs.Ytgoiifpimpnlpaa.PAll
open Go.RowKit Go.Proofs.YtgoiifpimpnlpaaW.PrintWords Go.Proofs.YtgoiifpimpnlpaaW.PrintLast Go.Proofs.YtgoiifpimpnlpaaW.PrintMore
set_option linter.unusedVariables false
set_option linter.unusedSimpArgs false
theorem info3f : (Try.prog.info? 3).map (fun i => (i.zero, i.size, i.bytes)) = some (some (.int .i64 0), 1, 8) := by kernel_rfl
def OutF (B o : Nat) (L : List Int) (W : World) : Prop := B ≤ o ∧ ∃ v, (∃ g, v.ownBlock = some g) ∧ W.heap[o]? = some (.cells #[v] 46 (0, 0)) ∧ Kd.R (Kd.int .i64) 3 W B (fun k => k ≠ o) v L
theorem OutF.below {B o : Nat} : ∀ (L : List Int) (W W' : World), OutF B o L W → Below W.heap.size W W' → OutF B o L W' := by
  rintro L W W' ⟨hB, v, hg, h, hR⟩ hb
  exact ⟨hB, v, hg, (hb.block _ (blk_lt h)).trans h, Kd.R_below hR hb⟩
theorem OutF.set69 {B o : Nat} : ∀ (L : List Int) (W : World) (b : Nat) (arr : Array Value) (j : Nat) (v : Value), OutF B o L W → W.heap[b]? = some (.cells arr 69 (0, 0)) → OutF B o L (W.setCell ⟨b, j, none⟩ v) := by
  rintro L W b arr j u ⟨hB, v, hg, h, hR⟩ hb
  have hne : o ≠ b := by
    rintro rfl
    rw [h] at hb
    injection hb with hb
    injection hb with _ hb
    cases hb
  refine ⟨hB, v, hg, (Below.heap_setCell W ⟨b, j, none⟩ u o hne).trans h, Kd.R_set hR hb ?_ j u⟩
  intro q hq
  simp [Kd.int, Kd.scalar] at hq
  omega
theorem outF_frf {B o : Nat} {W w1 : World} {v u : Value} {L : List Int} (hBo : B ≤ o) (ho : W.heap[o]? = some (.cells #[v] 46 (0, 0))) (hR : Kd.R (Kd.int .i64) 3 W B (fun k => k ≠ o) v L) (hg : W.drew.grownBy w1 v.ownBlock) : FrF B W (w1.setCell ⟨o, 0, none⟩ u) := by
  have hs : (w1.setCell ⟨o, 0, none⟩ u).heap.size = w1.heap.size := by simp
  have hk : ∀ k, k ≠ o → (w1.setCell ⟨o, 0, none⟩ u).heap[k]? = w1.heap[k]? := fun k hk => Below.heap_setCell w1 ⟨o, 0, none⟩ u k hk
  refine ⟨by rw [hs]; exact hg.size, fun k hkB => (hk k (by omega)).trans ?_, fun k cells ty hc ht => (hk k ?_).trans (hg.block k (blk_lt hc) ?_), hg.os, hg.tape, hg.output⟩
  · rcases Nat.lt_or_ge k W.heap.size with hlt | hge
    · exact hg.block k hlt (fun e => by have := Kd.R_base hR k e.symm; omega)
    · exact absurd (blk_lt ho) (by omega)
  · rintro rfl
    rw [ho] at hc
    injection hc with hc
    injection hc with _ hc
    rcases ht with h | h <;> rw [h] at hc <;> exact absurd hc (by decide)
  · intro e
    obtain ⟨cells', h2⟩ := Kd.R_typed hR k e.symm
    rw [h2] at hc
    injection hc with hc
    injection hc with _ hc
    rcases ht with h | h <;> rw [h] at hc <;> exact absurd hc (by decide)
set_option maxRecDepth 100000 in
set_option maxHeartbeats 2000000 in
theorem clo119 (B o M : Nat) (hM : M ≤ 1000000) (NB D : Int) (hNB : NB ≤ 1000000000000) (hD : D ≤ 1000000000000) : CloF 119 #[ptr o] (OutF B o) B M NB D := by
  rintro L W g n b n0 nB b0 bD hL ⟨hBo, v, hgv, ho, hR⟩ hBW hT
  show Calls Try.prog 119 #[ptr g, .int .i64 b, ptr o] W _
  unfold tvar at hT
  obtain ⟨A, c, gs, hc, c0, c1, c2, c3, hrow, hl⟩ := hT.cells
  obtain ⟨Av, cv, hv⟩ := Kd.R_slice hR
  have HV := Lib.hid hv
  clear hv
  have co : W.cell? ⟨o, 0, none⟩ = some v := (am_ ho 0).trans rfl
  have fo : W.frozen? ⟨o, 0, none⟩ = false := al_ ho 0
  have HO := Lib.hid ho
  have HR := Lib.hid hR
  have HGV := Lib.hid hgv
  clear hgv
  have olt := blk_lt ho
  unfold freeL ptr
  clear hT hrow hl ho hR c0 c2 c3
  by_cases hle : b ≤ n
  · rw [if_pos hle]
    have d1 : decide (b ≤ n) = true := an_ hle
    have hwr : IntKind.i64.wrap (n - b) = n - b := by rw [IntKind.wrap_i64]; omega
    have HL0 := Lib.hid (show (L.length + 1) * 8 ≤ 140737488355328 by omega)
    clear hle
    go_enter Try.func119, Try.ntmps119
    go_wp2
    go_region_law (refine Kd.R_append_step (Kd.int .i64) (w0 := W) (W := W.drew) B (by first | rfl | simp) (.tmp 12) (.tmp 19) 46 3 (.int .i64 0) 8 (by rfl) Try.underlying46 info3f rfl (by decide) (by omega) v L (n - b) [.int .i64 (n - b)] (fun k => k ≠ o) (fun _ => False) (by simp [Act.eval, Act.put]) (by simp [Act.eval, Act.put]) rfl (fun _ h => h.elim) (fun k hk => by have : W.drew.heap.size = W.heap.size := rfl; omega) (Kd.R_drew HR.out) (by repeat (first | exact Below.refl _ _ | apply ah_)) hBW HL0.out ?_; intro v1 w1 hu1 hb1 hg1 hat1; obtain ⟨A1, cc1, e1⟩ := Kd.R_slice hu1; rw [show (L ++ [n - b]).length = L.length + 1 by simp] at e1; subst e1; have HU1 := Lib.hid hu1; have HG1 := Lib.hid hg1; have hno : some o ≠ v.ownBlock := Kd.R_ne HR.out HO.out (by decide); have hblk1 : w1.heap[o]? = some (.cells #[v] 46 (0, 0)) := (hg1.block o olt hno).trans HO.out; have HBLK := Lib.hid hblk1; have k1 : w1.cell? ⟨o, 0, none⟩ = some v := (am_ hblk1 0).trans rfl; have f1 : w1.frozen? ⟨o, 0, none⟩ = false := al_ hblk1 0; have HGV1 := Lib.hid (show ∃ g, (Value.slice A1 (L.length + 1) cc1).ownBlock = some g from hat1.elim (fun h => by obtain ⟨x, hx⟩ := HGV.out; exact ⟨x, h.trans hx⟩) (fun ⟨x, hx, _⟩ => ⟨x, hx⟩)); clear hu1 hb1 hg1 hblk1 hat1)
    all_goals go_wp2
    all_goals go_ret
    all_goals exact ⟨rfl, ⟨hBo, _, HGV1.out, blk_set HBLK.out 0 _, Kd.R_far HU1.out (fun k hk => hk) _⟩, outF_frf hBo HO.out HR.out HG1.out⟩
  · rw [if_neg hle, List.append_nil]
    have d1 : decide (b ≤ n) = false := decide_eq_false hle
    clear hle
    go_enter Try.func119, Try.ntmps119
    go_wp2
    go_ret
    exact ⟨rfl, ⟨hBo, v, HGV.out, HO.out, HR.out⟩, FrF.refl⟩
theorem enters119 : ∀ args W, (callFunc 119 args).run Try.prog W = .ok (.enter 119 args) W := fun args W => enters_ (P := Try.prog) (f := 119) Try.func119 (by kernel_rfl) rfl args W
def freeS (t : Tm) : List Int := Lib.compact ((freeT t 0).mergeSort fun x y => decide (x ≤ y))
theorem grow_none (w : World) : Go.Sort.grow w #[] = w := by cases w; simp [Go.Sort.grow]
theorem compact_len (zs : List Int) : (Lib.compact zs).length ≤ zs.length := by
  unfold Lib.compact Lib.compactUpTo
  rw [List.length_map]
  exact Nat.le_trans (List.length_filter_le _ _) (by simp)
def FrPost (l : List Int) (w : World) (e : Ending) (w' : World) : Prop := ∃ v, e = .returned v ∧ Kd.R (Kd.int .i64) 3 w' w.heap.size (fun _ => True) v l ∧ Below w.heap.size w w'
set_option maxRecDepth 100000 in
set_option maxHeartbeats 2000000 in
theorem free_calls (NB : Int) (hNB : NB ≤ 1000000000000) (t : Tm) (g : Nat) (w : World) (hv : t.vb NB) (hw : t.wf) (hc : t.cnt ≤ 1000000) (hT : TAt (fun _ => True) w g t) :
    Calls Try.prog 76 #[ptr g] w (FrPost (freeS t) w) := by
  have hI : OutF w.heap.size (w.heap.size + 1) [] ((w.alloc (.cells #[] 3)).alloc (.cells #[.slice (some ⟨w.heap.size, 0, none⟩) 0 0] 46)) := by
    refine ⟨by omega, _, ⟨w.heap.size, rfl⟩, by simpa using blk_new (w.alloc (.cells #[] 3)) (.cells #[.slice (some ⟨w.heap.size, 0, none⟩) 0 0] 46), ?_⟩
    exact ⟨fun k hk => by simp [Value.ownBlock] at hk; omega, ⟨[], ⟨by simp, .inr ⟨w.heap.size, 0, #[], rfl, Nat.le_refl _, ad_ (blk_new w _) _, Nat.le_refl _, by decide, by simp, by simp⟩⟩, Reps.none _ _⟩⟩
  have hB2 : Below w.heap.size w ((w.alloc (.cells #[] 3)).alloc (.cells #[.slice (some ⟨w.heap.size, 0, none⟩) 0 0] 46)) := by repeat (first | exact Below.refl _ _ | apply ai_)
  have C := Lib.hid (changeF_calls 119 #[ptr (w.heap.size + 1)] (OutF w.heap.size (w.heap.size + 1)) w.heap.size t.cnt NB t.cnt (by omega) enters119 (clo119 w.heap.size (w.heap.size + 1) t.cnt hc NB t.cnt hNB (by omega)) OutF.below OutF.set69 t [] g ((w.alloc (.cells #[] 3)).alloc (.cells #[.slice (some ⟨w.heap.size, 0, none⟩) 0 0] 46)) 0 (by omega) (by omega) hv hw (by simp) (TAt.step (fun x _ hx => hB2.block x hx) (fun x _ hx => hx) hT) hB2.size hI)
  have hlen := freeT_len t 0
  clear hI hv hw hT
  have HB2 := Lib.hid hB2
  clear hB2
  unfold ChP at C
  rw [List.nil_append] at C
  unfold ptr at C ⊢
  go_enter Try.func76, Try.ntmps76
  go_wp2_with fail
  refine C.out.mono ?_
  rintro e w3 ⟨r, rfl, _, ⟨hBo, v, ⟨g0, hg0⟩, ho, hR⟩, hf⟩
  have HF := Lib.hid hf
  clear hf
  have hown := Kd.own_of_R (enc := Value.int .i64) (h1 := fun _ => rfl) hR
  rcases hown.2 with ⟨hnil, _⟩ | ⟨q, cap, cur, rfl, hbase, hb, h1, h2, h3, h4⟩
  · rw [hnil] at hg0; simp [Value.ownBlock] at hg0
  have co : w3.cell? ⟨w.heap.size + 1, 0, none⟩ = some (.slice (some ⟨q, 0, none⟩) (freeT t 0).length cap) := (am_ ho 0).trans rfl
  have hqne : w.heap.size + 1 ≠ q := fun e => hR.1 q rfl e.symm
  have hqlt := blk_lt hb
  have HO := Lib.hid ho
  have HH := Lib.hid (holds_of_blockI (w := w3) hb (by simpa [encs] using h4))
  have HB := Lib.hid hb
  have hl62 : (freeT t 0).length < 4611686018427387904 := by omega
  have S1 := Lib.hid (slices_Sort_int q 0 cap (freeT t 0) w3 HH.out hqlt hl62)
  clear ho hown hR hb h4
  go_wp2_with fail
  refine S1.out.mono ?_
  rintro e w4 ⟨rfl, n4, os4, hw4⟩
  obtain ⟨zs, hzs⟩ : ∃ zs, zs = (freeT t 0).mergeSort fun x y => decide (x ≤ y) := ⟨_, rfl⟩
  rw [← hzs] at hw4
  have hzl : zs.length = (freeT t 0).length := by rw [hzs]; simp
  have hblk4 : w4.heap[q]? = some (.cells (Go.Sort.putCells (Value.int .i64) 0 zs.toArray cur) 3 (0, 0)) := by rw [hw4]; exact heap_sortedI _ HB.out
  have hg4 : w3.grownBy w4 (some q) := by rw [hw4]; exact grownBy_sortedI _
  have ho4 : w4.heap[w.heap.size + 1]? = some (.cells #[.slice (some ⟨q, 0, none⟩) (freeT t 0).length cap] 46 (0, 0)) := (hg4.block _ (blk_lt HO.out) (fun e => hqne (Option.some.inj e))).trans HO.out
  have co4 : w4.cell? ⟨w.heap.size + 1, 0, none⟩ = some (.slice (some ⟨q, 0, none⟩) (freeT t 0).length cap) := (am_ ho4 0).trans rfl
  have ht4 := take_putCellsI cur zs (by omega)
  have hs4 : (Go.Sort.putCells (Value.int .i64) 0 zs.toArray cur).size = cur.size := by simp [Go.Sort.putCells]
  have S2 := slices_Compact_int q 0 cap zs w4 (holds_of_blockI (w := w4) hblk4 ht4) (by omega) (by omega)
  rw [hzl] at S2
  have S2 := Lib.hid S2
  have HG4 := Lib.hid hg4
  have HB4 := Lib.hid hblk4
  have HS4 := Lib.hid hs4
  have HZ := Lib.hid hzs
  have HZL := Lib.hid hzl
  clear hw4 hblk4 hg4 ho4 ht4 hs4 hzs hzl
  go_wp2_with fail
  refine S2.out.mono ?_
  rintro e w5 ⟨rfl, n5, hw5⟩
  have hcl : (Lib.compact zs).length ≤ zs.length := compact_len zs
  obtain ⟨ds, hds⟩ : ∃ ds, ds = Lib.compact zs ++ List.replicate (zs.length - (Lib.compact zs).length) 0 := ⟨_, rfl⟩
  rw [HZL.out] at hcl
  rw [HZL.out] at hds
  rw [← hds] at hw5
  have hdl : ds.length = (freeT t 0).length := by rw [hds]; simp; omega
  have hw5' : w5 = Go.Sort.grow (Go.Sort.putRow (Value.int .i64) (Go.Sort.ahead w4 n5) q 0 ds.toArray) #[] := by rw [grow_none]; exact hw5
  have hblk5 : w5.heap[q]? = some (.cells (Go.Sort.putCells (Value.int .i64) 0 ds.toArray (Go.Sort.putCells (Value.int .i64) 0 zs.toArray cur)) 3 (0, 0)) := by rw [hw5']; exact heap_sortedI _ HB4.out
  have hg5 : w4.grownBy w5 (some q) := by rw [hw5']; exact grownBy_sortedI _
  have ht5 := take_putCellsI (Go.Sort.putCells (Value.int .i64) 0 zs.toArray cur) ds (by rw [HS4.out]; omega)
  have hs5 : (Go.Sort.putCells (Value.int .i64) 0 ds.toArray (Go.Sort.putCells (Value.int .i64) 0 zs.toArray cur)).size = cur.size := by simp [Go.Sort.putCells]
  have hR : Kd.R (Kd.int .i64) 3 w5 w.heap.size (fun _ => True) (.slice (some ⟨q, 0, none⟩) (Lib.compact zs).length cap) (Lib.compact zs) := by
    refine Kd.R_of_own (enc := Value.int .i64) (h1 := fun _ => rfl) ⟨by simp [encs], .inr ⟨q, cap, _, rfl, hbase, hblk5, by omega, h2, by rw [hs5]; exact h3, ?_⟩⟩ (fun _ _ => trivial)
    have e1 := congrArg (List.take (Lib.compact zs).length) ht5
    rw [List.take_take, Nat.min_eq_left (by rw [hdl]; exact hcl)] at e1
    rw [Nat.mul_one, e1, hds, List.map_append, List.take_left' (by simp)]
    rfl
  have hb35 : Below w.heap.size w w5 := by
    have hfb := HF.out
    refine ⟨hg5.os.trans (HG4.out.os.trans hfb.below.os), hg5.tape.trans (HG4.out.tape.trans hfb.below.tape), hg5.output.trans (HG4.out.output.trans hfb.below.output), ?_, ?_⟩
    · have := hg5.size; have := HG4.out.size; have := hfb.1; have := HB2.out.size; omega
    · intro k hk
      have hk2 := HB2.out.size
      have hk3 := hfb.1
      have hk4 := HG4.out.size
      exact (hg5.block k (by omega) (fun e => by injection e; omega)).trans ((HG4.out.block k (by omega) (fun e => by injection e; omega)).trans ((hfb.2.1 k hk).trans (HB2.out.block k hk)))
  have HR := Lib.hid hR
  have HB35 := Lib.hid hb35
  clear hR hb35 hblk5 hg5 ht5 hs5 hw5 hw5' hds hdl
  go_wp2
  go_ret
  unfold freeS
  rw [← HZ.out]
  exact ⟨_, rfl, HR.out, HB35.out⟩
end Go.Proofs.Ytgoiifpimpnlpaa.PAll

end

section
namespace Go.Proofs.Ytgoiifpimpnlpaa.PAll
open Go.RowKit Go.Proofs.YtgoiifpimpnlpaaW.PrintWords Go.Proofs.YtgoiifpimpnlpaaW.PrintLast Go.Proofs.YtgoiifpimpnlpaaW.PrintMore
set_option linter.unusedVariables false
set_option linter.unusedSimpArgs false
theorem kept_cell {w W : World} {S : Nat → Prop} (h : Kept w W S) {p : Addr} (hn : ¬ S p.block) (hlt : p.block < w.heap.size) : W.cell? p = w.cell? p := by
  simp [World.cell?, h.2 _ hlt hn]
theorem kept_get62 {w : World} {S : Nat → Prop} {A : Option Addr} {n : Nat} {xs : List S62} (h : ∀ W, Kept w W S → Kd.C k62 W A n xs) (i : Int) (h0 : 0 ≤ i) (h1 : i < n) :
    ∃ ad A2 c2, A = some ad ∧ (∀ W, Kept w W S → W.cell? (ad.add (i.toNat * 3)) = some (.int .i64 (rd_T62 xs i).f0) ∧ W.cell? ⟨(ad.add (i.toNat * 3)).block, (ad.add (i.toNat * 3)).off + 1, none⟩ = some (.int .i64 (rd_T62 xs i).f1) ∧ W.cell? ⟨(ad.add (i.toNat * 3)).block, (ad.add (i.toNat * 3)).off + 2, none⟩ = some (.slice A2 (rd_T62 xs i).f2.length c2)) ∧ (rd_T62 xs i).f2.length ≤ c2 ∧ ∀ W, Kept w W S → Kd.C k62 W A2 (rd_T62 xs i).f2.length (rd_T62 xs i).f2 := by
  obtain ⟨ad, A2, c2, rfl, p0, p1, p2, l2, g2⟩ := at_T62 (h w (Kept.refl w S)) i h0 h1
  have hn : ¬ S (ad.add (i.toNat * 3)).block := by
    intro hs
    have hk : Kept w (w.setCell ⟨(ad.add (i.toNat * 3)).block, (ad.add (i.toNat * 3)).off + 1, none⟩ (.pointer none)) S := Kept.setCell (p := ⟨(ad.add (i.toNat * 3)).block, (ad.add (i.toNat * 3)).off + 1, none⟩) (Kept.refl w S) (.inl hs) _
    obtain ⟨ad', A2', c2', he, q0, q1, q2, _⟩ := at_T62 (h _ hk) i h0 h1
    injection he with he
    subst he
    have := World.cell?_setCell_same' w ⟨(ad.add (i.toNat * 3)).block, (ad.add (i.toNat * 3)).off + 1, none⟩ (.pointer none) (by rw [p1]; rfl)
    rw [this] at q1
    cases q1
  have hlt := aa_ w _ p0
  refine ⟨ad, A2, c2, rfl, fun W hW => ⟨(kept_cell hW hn hlt).trans p0, (kept_cell hW (p := ⟨(ad.add (i.toNat * 3)).block, (ad.add (i.toNat * 3)).off + 1, none⟩) hn hlt).trans p1, (kept_cell hW (p := ⟨(ad.add (i.toNat * 3)).block, (ad.add (i.toNat * 3)).off + 2, none⟩) hn hlt).trans p2⟩, l2, fun W hW => ?_⟩
  obtain ⟨ad', A2', c2', he, q0, q1, q2, l2', g2'⟩ := at_T62 (h W hW) i h0 h1
  injection he with he
  subst he
  rw [(kept_cell hW (p := ⟨(ad.add (i.toNat * 3)).block, (ad.add (i.toNat * 3)).off + 2, none⟩) hn hlt).trans p2] at q2
  injection q2 with q2
  injection q2 with qa _ _
  rw [qa]
  exact g2'
end Go.Proofs.Ytgoiifpimpnlpaa.PAll

end

section
namespace Go.Proofs.Ytgoiifpimpnlpaa.PAll
open Go.RowKit Go.Proofs.YtgoiifpimpnlpaaW.PrintWords Go.Proofs.YtgoiifpimpnlpaaW.PrintLast Go.Proofs.YtgoiifpimpnlpaaW.PrintMore
attribute [local go_sem] max2_int min2_int max_two min_two max_three min_three max_four min_four   -- for this text's walks alone
set_option linter.unusedVariables false
set_option linter.unusedSimpArgs false
def laws_szCellS.f (l0 : List (S68)) (a1 : Int) : Option (Int) := if (wrap64 (a1 - (l0.length : Int))) < 0 then (some (-1)) else (some (wrap64 (a1 - (l0.length : Int))))
set_option maxHeartbeats 8000000 in
set_option maxRecDepth 100000 in
theorem laws_szCellS.calls (A0 : Option Addr) (c0 : Nat) (l0 : List (S68)) (a1 : Int) (r : Int) (w : World) (hr0 : Kd.C k68 w A0 l0.length l0) (hc0 : l0.length ≤ c0) (h : laws_szCellS.f l0 a1 = some r) :
    Calls Try.prog 13 #[.slice A0 l0.length c0, .int .i64 a1] w fun e w' => e = .returned (.int .i64 r) ∧ Drawn0 w w' := by
  have HR0 := ab_ hr0
  have HC0 := ab_ hc0
  clear hr0 hc0
  have H : (if (wrap64 (a1 - (l0.length : Int))) < 0 then (some (-1)) else (some (wrap64 (a1 - (l0.length : Int))))) = some r := h
  clear h
  by_cases c3 : (wrap64 (a1 - (l0.length : Int))) < 0
  · rw [if_pos c3] at H
    have c3b0 : decide ((wrap64 (a1 - (l0.length : Int))) < 0) = true := an_ c3
    clear c3
    obtain rfl := Option.some.inj H
    go_enter Try.func13, Try.ntmps13
    go_wp2
    go_ret
    exact ⟨by first | rfl | (simp; done) | (simp [*]; done), by repeat (first | exact Drawn0.refl _ | apply Drawn0.step)⟩
  · rw [if_neg c3] at H
    have c3b0 : decide ((wrap64 (a1 - (l0.length : Int))) < 0) = false := decide_eq_false c3
    clear c3
    obtain rfl := Option.some.inj H
    go_enter Try.func13, Try.ntmps13
    go_wp2
    go_ret
    exact ⟨by first | rfl | (simp; done) | (simp [*]; done), by repeat (first | exact Drawn0.refl _ | apply Drawn0.step)⟩
def spec_l1In.f (a0 : Int) (a1 : Int) (a2 : Int) : Option (Bool) := if a0 ≥ a1 then (some (decide (a0 ≤ a2))) else (some false)
set_option maxHeartbeats 8000000 in
set_option maxRecDepth 100000 in
theorem spec_l1In.calls (a0 : Int) (a1 : Int) (a2 : Int) (r : Bool) (w : World) (h : spec_l1In.f a0 a1 a2 = some r) :
    Calls Try.prog 59 #[.int .i64 a0, .int .i64 a1, .int .i64 a2] w fun e w' => e = .returned (.bool r) ∧ Drawn0 w w' := by
  have H : (if a0 ≥ a1 then (some (decide (a0 ≤ a2))) else (some false)) = some r := h
  clear h
  by_cases c4 : a0 ≥ a1
  · rw [if_pos c4] at H
    have c4b0 : decide (a1 ≤ a0) = true := an_ c4
    clear c4
    obtain rfl := Option.some.inj H
    go_enter Try.func59, Try.ntmps59
    go_wp2
    go_ret
    exact ⟨by first | rfl | (simp; done) | (simp [*]; done), by repeat (first | exact Drawn0.refl _ | apply Drawn0.step)⟩
  · rw [if_neg c4] at H
    have c4b0 : decide (a1 ≤ a0) = false := decide_eq_false c4
    clear c4
    obtain rfl := Option.some.inj H
    go_enter Try.func59, Try.ntmps59
    go_wp2
    go_ret
    exact ⟨by first | rfl | (simp; done) | (simp [*]; done), by repeat (first | exact Drawn0.refl _ | apply Drawn0.step)⟩
mutual
def spec_l3Arity.j0 : Nat → Int → Bool → Option (Int)
  | 0, _, _ => none
  | k + 1, x3, x4 => if x4 = true then (some 0) else (if x3 = 3 then (some 1) else (if x3 = 4 then (spec_l3Arity.j1 k x3 (x3 == 4)) else (if x3 = 5 then (spec_l3Arity.j1 k x3 (x3 == 5)) else (spec_l3Arity.j1 k x3 (x3 == 7)))))
def spec_l3Arity.j1 : Nat → Int → Bool → Option (Int)
  | 0, _, _ => none
  | k + 1, x3, x9 => if x9 = true then (some 2) else (if x3 = 6 then (some 3) else (some (-1)))
end
def spec_l3Arity.f (k : Nat) (a0 : Int) : Option (Int) := if a0 = 1 then (spec_l3Arity.j0 k a0 (a0 == 1)) else (spec_l3Arity.j0 k a0 (a0 == 2))
set_option maxHeartbeats 8000000 in
set_option maxRecDepth 100000 in
theorem spec_l3Arity.calls (k : Nat) (a0 : Int) (r : Int) (w : World) (h : spec_l3Arity.f k a0 = some r) :
    Calls Try.prog 90 #[.int .i64 a0] w fun e w' => e = .returned (.int .i64 r) ∧ Drawn0 w w' := by
  have H : (if a0 = 1 then (spec_l3Arity.j0 k a0 (a0 == 1)) else (spec_l3Arity.j0 k a0 (a0 == 2))) = some r := h
  clear h
  have HC2 := ab_ H
  clear H
  go_enter Try.func90, Try.ntmps90
  go_upto_if 4 with (fail)
  go_cut [4] (fun v4 wc => ∃ (kq : Nat) (x4_1 : Bool), v4 = .bool x4_1 ∧ Aside0 (spec_l3Arity.j0 kq a0 x4_1 = some r) ∧ Aside0 (kq ≤ k) ∧ Drawn0 w wc)
  case first =>
    have H := HC2.out
    clear HC2
    by_cases c3 : a0 = 1
    · rw [if_pos c3] at H
      have c3b0 : (a0 == 1) = true := beq_iff_eq.mpr c3
      have c3b1 : (a0 != 1) = false := bne_eq_false_iff_eq.mpr c3
      clear c3
      (first | rw [c3b0] | (simp only [i64_w, i32_w]; rw [c3b0]) | skip)
      have H' := ab_ H
      clear H
      go_wp2
      go_meet
      case rel => exact ⟨_, ((a0 == 1)), (by first | rfl | (simp; done) | (simp [*]; done)), H', ⟨by first | omega | exact Nat.le_refl _⟩, by repeat (first | exact Drawn0.refl _ | apply Drawn0.step)⟩
    · rw [if_neg c3] at H
      have c3b0 : (a0 == 1) = false := beq_eq_false_iff_ne.mpr c3
      have c3b1 : (a0 != 1) = true := bne_iff_ne.mpr c3
      (first | rw [c3b0] | (simp only [i64_w, i32_w]; rw [c3b0]) | skip)
      have H' := ab_ H
      clear H
      go_wp2
      go_meet
      case rel => exact ⟨_, ((a0 == 2)), (by first | rfl | (simp; done) | (simp [*]; done)), H', ⟨by first | omega | exact Nat.le_refl _⟩, by repeat (first | exact Drawn0.refl _ | apply Drawn0.step)⟩
  case rest =>
    clear HC2
    try clear p2
    try clear c3
    try clear c3b0
    try clear c3b1
    obtain ⟨kq, x4_1, rfl, HA, HJ1, ⟨mc1, rfl⟩⟩ := hcut
    cases kq with
    | zero => exact absurd HA.out (by simp [spec_l3Arity.j0])
    | succ kj1 =>
      have H := HA.out
      clear HA
      simp only [spec_l3Arity.j0] at H
      by_cases c4 : x4_1 = true
      · subst c4
        have H1 : (some 0) = some r := by rw [if_pos rfl] at H; exact H
        clear H
        have H := H1
        clear H1
        obtain rfl := Option.some.inj H
        go_wp2
        go_ret
        exact ⟨by first | rfl | (simp; done) | (simp [*]; done), by repeat (first | exact Drawn0.refl _ | apply Drawn0.step)⟩
      · replace c4 := Bool.eq_false_iff.mpr c4
        subst c4
        have H1 : (if a0 = 3 then (some 1) else (if a0 = 4 then (spec_l3Arity.j1 kj1 a0 (a0 == 4)) else (if a0 = 5 then (spec_l3Arity.j1 kj1 a0 (a0 == 5)) else (spec_l3Arity.j1 kj1 a0 (a0 == 7))))) = some r := by rw [if_neg (show ¬ (false = true) by decide)] at H; exact H
        clear H
        have H := H1
        clear H1
        by_cases c5 : a0 = 3
        · rw [if_pos c5] at H
          have c5b0 : (a0 == 3) = true := beq_iff_eq.mpr c5
          have c5b1 : (a0 != 3) = false := bne_eq_false_iff_eq.mpr c5
          clear c5
          obtain rfl := Option.some.inj H
          go_wp2
          go_ret
          exact ⟨by first | rfl | (simp; done) | (simp [*]; done), by repeat (first | exact Drawn0.refl _ | apply Drawn0.step)⟩
        · rw [if_neg c5] at H
          have c5b0 : (a0 == 3) = false := beq_eq_false_iff_ne.mpr c5
          have c5b1 : (a0 != 3) = true := bne_iff_ne.mpr c5
          have HC6 := ab_ H
          clear H
          go_upto_if 9 with (fail)
          go_cut [9] (fun v9 wc => ∃ (kq : Nat) (x9_5 : Bool), v9 = .bool x9_5 ∧ Aside0 (spec_l3Arity.j1 kq a0 x9_5 = some r) ∧ Aside0 (kq ≤ kj1) ∧ Drawn0 w wc)
          case first =>
            have H := HC6.out
            clear HC6
            by_cases c7 : a0 = 4
            · rw [if_pos c7] at H
              have c7b0 : (a0 == 4) = true := beq_iff_eq.mpr c7
              have c7b1 : (a0 != 4) = false := bne_eq_false_iff_eq.mpr c7
              clear c7
              (first | rw [c7b0] | (simp only [i64_w, i32_w]; rw [c7b0]) | skip)
              have H' := ab_ H
              clear H
              go_wp2
              go_meet
              case rel => exact ⟨_, ((a0 == 4)), (by first | rfl | (simp; done) | (simp [*]; done)), H', ⟨by have := HJ1.out; first | omega | exact Nat.le_refl _⟩, by repeat (first | exact Drawn0.refl _ | apply Drawn0.step)⟩
            · rw [if_neg c7] at H
              have c7b0 : (a0 == 4) = false := beq_eq_false_iff_ne.mpr c7
              have c7b1 : (a0 != 4) = true := bne_iff_ne.mpr c7
              (first | rw [c7b0] | (simp only [i64_w, i32_w]; rw [c7b0]) | skip)
              by_cases c8 : a0 = 5
              · rw [if_pos c8] at H
                have c8b0 : (a0 == 5) = true := beq_iff_eq.mpr c8
                have c8b1 : (a0 != 5) = false := bne_eq_false_iff_eq.mpr c8
                clear c8
                have H' := ab_ H
                clear H
                go_wp2
                go_meet
                case rel => exact ⟨_, ((a0 == 5)), (by first | rfl | (simp; done) | (simp [*]; done)), H', ⟨by have := HJ1.out; first | omega | exact Nat.le_refl _⟩, by repeat (first | exact Drawn0.refl _ | apply Drawn0.step)⟩
              · rw [if_neg c8] at H
                have c8b0 : (a0 == 5) = false := beq_eq_false_iff_ne.mpr c8
                have c8b1 : (a0 != 5) = true := bne_iff_ne.mpr c8
                have H' := ab_ H
                clear H
                go_wp2
                go_meet
                case rel => exact ⟨_, ((a0 == 7)), (by first | rfl | (simp; done) | (simp [*]; done)), H', ⟨by have := HJ1.out; first | omega | exact Nat.le_refl _⟩, by repeat (first | exact Drawn0.refl _ | apply Drawn0.step)⟩
          case rest =>
            clear HC6
            try clear c1
            try clear p2
            try clear c3
            try clear c3b0
            try clear c3b1
            try clear c4
            try clear c5
            try clear c5b0
            try clear c5b1
            try clear c7
            try clear c7b0
            try clear c7b1
            try clear c8
            try clear c8b0
            try clear c8b1
            try clear p2
            obtain ⟨kq, x9_5, rfl, HA, HJ5, ⟨mc5, rfl⟩⟩ := hcut
            cases kq with
            | zero => exact absurd HA.out (by simp [spec_l3Arity.j1])
            | succ kj5 =>
              have H := HA.out
              clear HA
              simp only [spec_l3Arity.j1] at H
              by_cases c9 : x9_5 = true
              · subst c9
                have H1 : (some 2) = some r := by rw [if_pos rfl] at H; exact H
                clear H
                have H := H1
                clear H1
                obtain rfl := Option.some.inj H
                go_wp2
                go_ret
                exact ⟨by first | rfl | (simp; done) | (simp [*]; done), by repeat (first | exact Drawn0.refl _ | apply Drawn0.step)⟩
              · replace c9 := Bool.eq_false_iff.mpr c9
                subst c9
                have H1 : (if a0 = 6 then (some 3) else (some (-1))) = some r := by rw [if_neg (show ¬ (false = true) by decide)] at H; exact H
                clear H
                have H := H1
                clear H1
                by_cases c10 : a0 = 6
                · rw [if_pos c10] at H
                  have c10b0 : (a0 == 6) = true := beq_iff_eq.mpr c10
                  have c10b1 : (a0 != 6) = false := bne_eq_false_iff_eq.mpr c10
                  clear c10
                  obtain rfl := Option.some.inj H
                  go_wp2
                  go_ret
                  exact ⟨by first | rfl | (simp; done) | (simp [*]; done), by repeat (first | exact Drawn0.refl _ | apply Drawn0.step)⟩
                · rw [if_neg c10] at H
                  have c10b0 : (a0 == 6) = false := beq_eq_false_iff_ne.mpr c10
                  have c10b1 : (a0 != 6) = true := bne_iff_ne.mpr c10
                  obtain rfl := Option.some.inj H
                  go_wp2
                  go_ret
                  exact ⟨by first | rfl | (simp; done) | (simp [*]; done), by repeat (first | exact Drawn0.refl _ | apply Drawn0.step)⟩
end Go.Proofs.Ytgoiifpimpnlpaa.PAll

end

section
namespace Go.Proofs.Ytgoiifpimpnlpaa.PAll
open Go.RowKit Go.Proofs.YtgoiifpimpnlpaaW.PrintWords Go.Proofs.YtgoiifpimpnlpaaW.PrintLast Go.Proofs.YtgoiifpimpnlpaaW.PrintMore
attribute [local go_sem] max2_int min2_int max_two min_two max_three min_three max_four min_four   -- for this text's walks alone
set_option linter.unusedVariables false
set_option linter.unusedSimpArgs false
def spec_l3Cell.f (k : Nat) (a0_0 : Int) (a0_1 : Int) : Option (Bool) := if a0_0 = 1 then ((spec_l1In.f a0_1 0 99).bind fun t102 => (some t102)) else (if a0_0 = 2 then ((spec_l1In.f a0_1 (-1000000) 1000000).bind fun t103 => (some t103)) else (if a0_1 = 0 then ((spec_l3Arity.f k a0_0).bind fun t104 => (some (decide (t104 > 0)))) else (some false)))
set_option maxHeartbeats 8000000 in
set_option maxRecDepth 100000 in
theorem spec_l3Cell.calls (k : Nat) (a0_0 : Int) (a0_1 : Int) (r : Bool) (w : World) (h : spec_l3Cell.f k a0_0 a0_1 = some r) :
    Calls Try.prog 89 #[.agg #[.int .i64 a0_0, .int .i64 a0_1]] w fun e w' => e = .returned (.bool r) ∧ Below w.heap.size w w' := by
  have hu66 := Try.underlying66
  have HB := ab_ (Below.refl w.heap.size w)
  have H : (if a0_0 = 1 then ((spec_l1In.f a0_1 0 99).bind fun t102 => (some t102)) else (if a0_0 = 2 then ((spec_l1In.f a0_1 (-1000000) 1000000).bind fun t103 => (some t103)) else (if a0_1 = 0 then ((spec_l3Arity.f k a0_0).bind fun t104 => (some (decide (t104 > 0)))) else (some false)))) = some r := h
  clear h
  by_cases c2 : a0_0 = 1
  · rw [if_pos c2] at H
    have c2b0 : (a0_0 == 1) = true := beq_iff_eq.mpr c2
    have c2b1 : (a0_0 != 1) = false := bne_eq_false_iff_eq.mpr c2
    clear c2
    replace H := Option.bind_eq_some_iff.mp H
    obtain ⟨t102, A30, H⟩ := H
    replace H : (some t102) = some r := H
    have A3 := ab_ A30
    clear A30
    obtain rfl := Option.some.inj H
    go_enter Try.func89, Try.ntmps89
    go_wp2_with (first | ((with_reducible refine gate_dst (N := 1) rfl ?_); refine box_event ?hg (N := 1) ?hd (cs := #[.int .i64 a0_0, .int .i64 a0_1]) (t := 66) ?hr ?_; (case hd => rfl); (case hg => rfl); (case hr => first | (go_simp; done) | (go_simp; rfl)); intro gb101 hg w4 hbox hb; have n0_ := ab_ (ao_ (by repeat (first | (with_reducible first | exact HB.out | apply ai_ | apply ag_ | apply ah_) | exact HB.out)) hb); have n1_ := ab_ (hbox); have n2_ := ab_ ((by rw [hg]; exact (below_size (by repeat (first | (with_reducible first | exact HB.out | apply ai_ | apply ag_ | apply ah_) | exact HB.out))) : w.heap.size ≤ gb101)); have n3_ := ab_ ((by rw [hg]; exact (below_size (by repeat (first | (with_reducible first | exact HB.out | apply ai_ | apply ag_ | apply ah_) | exact HB.out))) : w.heap.size ≤ gb101)); clear HB; have HB := n0_; have BK101 := n1_; have GW101 := n2_; have GE101 := n3_; clear n0_ n1_ n2_ n3_; clear hb hbox hg; have hcz5_0 : w4.cell? ⟨gb101, 0, none⟩ = some (.int .i64 a0_0) := (am_ BK101.out 0).trans rfl; have hcz5_1 : w4.cell? ⟨gb101, 1, none⟩ = some (.int .i64 a0_1) := (am_ BK101.out 1).trans rfl; have hfz5_0 := al_ BK101.out 0; have hfz5_1 := al_ BK101.out 1) | ((with_reducible refine gate_callee (f := 59) rfl ?_); refine goesL_ (some 9) rfl rfl Try.func59 (by kernel_rfl) rfl #[.int .i64 a0_1, .int .i64 0, .int .i64 99] rfl (by (try simp only [List.map_toArray, List.map_cons, List.map_nil]); first | done | rfl | (simp only [List.length_drop, List.length_take]; rfl)) ?_; (with_reducible refine (spec_l1In.calls a0_1 0 99 t102 _ A3.out).mono ?_); rintro e w' ⟨rfl, ⟨nd, rfl⟩⟩; refine ⟨_, rfl, ?_⟩))
    go_ret
    exact ⟨by first | rfl | (simp [errW_none, errW_some] <;> rfl) | (simp [*, errW_none, errW_some] <;> rfl), by repeat (first | (with_reducible first | exact HB.out | apply ai_ | apply ag_ | apply ah_ | refine af_ ?_ GE101.out) | exact HB.out)⟩
  · rw [if_neg c2] at H
    have c2b0 : (a0_0 == 1) = false := beq_eq_false_iff_ne.mpr c2
    have c2b1 : (a0_0 != 1) = true := bne_iff_ne.mpr c2
    by_cases c6 : a0_0 = 2
    · rw [if_pos c6] at H
      have c6b0 : (a0_0 == 2) = true := beq_iff_eq.mpr c6
      have c6b1 : (a0_0 != 2) = false := bne_eq_false_iff_eq.mpr c6
      clear c6
      replace H := Option.bind_eq_some_iff.mp H
      obtain ⟨t103, A70, H⟩ := H
      replace H : (some t103) = some r := H
      have A7 := ab_ A70
      clear A70
      obtain rfl := Option.some.inj H
      go_enter Try.func89, Try.ntmps89
      go_wp2_with (first | ((with_reducible refine gate_dst (N := 1) rfl ?_); refine box_event ?hg (N := 1) ?hd (cs := #[.int .i64 a0_0, .int .i64 a0_1]) (t := 66) ?hr ?_; (case hd => rfl); (case hg => rfl); (case hr => first | (go_simp; done) | (go_simp; rfl)); intro gb101 hg w8 hbox hb; have n0_ := ab_ (ao_ (by repeat (first | (with_reducible first | exact HB.out | apply ai_ | apply ag_ | apply ah_) | exact HB.out)) hb); have n1_ := ab_ (hbox); have n2_ := ab_ ((by rw [hg]; exact (below_size (by repeat (first | (with_reducible first | exact HB.out | apply ai_ | apply ag_ | apply ah_) | exact HB.out))) : w.heap.size ≤ gb101)); have n3_ := ab_ ((by rw [hg]; exact (below_size (by repeat (first | (with_reducible first | exact HB.out | apply ai_ | apply ag_ | apply ah_) | exact HB.out))) : w.heap.size ≤ gb101)); clear HB; have HB := n0_; have BK101 := n1_; have GW101 := n2_; have GE101 := n3_; clear n0_ n1_ n2_ n3_; clear hb hbox hg; have hcz9_0 : w8.cell? ⟨gb101, 0, none⟩ = some (.int .i64 a0_0) := (am_ BK101.out 0).trans rfl; have hcz9_1 : w8.cell? ⟨gb101, 1, none⟩ = some (.int .i64 a0_1) := (am_ BK101.out 1).trans rfl; have hfz9_0 := al_ BK101.out 0; have hfz9_1 := al_ BK101.out 1) | ((with_reducible refine gate_callee (f := 59) rfl ?_); refine goesL_ (some 14) rfl rfl Try.func59 (by kernel_rfl) rfl #[.int .i64 a0_1, .int .i64 (-1000000), .int .i64 1000000] rfl (by (try simp only [List.map_toArray, List.map_cons, List.map_nil]); first | done | rfl | (simp only [List.length_drop, List.length_take]; rfl)) ?_; (with_reducible refine (spec_l1In.calls a0_1 (-1000000) 1000000 t103 _ A7.out).mono ?_); rintro e w' ⟨rfl, ⟨nd, rfl⟩⟩; refine ⟨_, rfl, ?_⟩))
      go_ret
      exact ⟨by first | rfl | (simp [errW_none, errW_some] <;> rfl) | (simp [*, errW_none, errW_some] <;> rfl), by repeat (first | (with_reducible first | exact HB.out | apply ai_ | apply ag_ | apply ah_ | refine af_ ?_ GE101.out) | exact HB.out)⟩
    · rw [if_neg c6] at H
      have c6b0 : (a0_0 == 2) = false := beq_eq_false_iff_ne.mpr c6
      have c6b1 : (a0_0 != 2) = true := bne_iff_ne.mpr c6
      by_cases c10 : a0_1 = 0
      · rw [if_pos c10] at H
        have c10b0 : (a0_1 == 0) = true := beq_iff_eq.mpr c10
        have c10b1 : (a0_1 != 0) = false := bne_eq_false_iff_eq.mpr c10
        clear c10
        replace H := Option.bind_eq_some_iff.mp H
        obtain ⟨t104, A110, H⟩ := H
        replace H : (some (decide (t104 > 0))) = some r := H
        have A11 := ab_ A110
        clear A110
        obtain rfl := Option.some.inj H
        go_enter Try.func89, Try.ntmps89
        go_wp2_with (first | ((with_reducible refine gate_dst (N := 1) rfl ?_); refine box_event ?hg (N := 1) ?hd (cs := #[.int .i64 a0_0, .int .i64 a0_1]) (t := 66) ?hr ?_; (case hd => rfl); (case hg => rfl); (case hr => first | (go_simp; done) | (go_simp; rfl)); intro gb101 hg w12 hbox hb; have n0_ := ab_ (ao_ (by repeat (first | (with_reducible first | exact HB.out | apply ai_ | apply ag_ | apply ah_) | exact HB.out)) hb); have n1_ := ab_ (hbox); have n2_ := ab_ ((by rw [hg]; exact (below_size (by repeat (first | (with_reducible first | exact HB.out | apply ai_ | apply ag_ | apply ah_) | exact HB.out))) : w.heap.size ≤ gb101)); have n3_ := ab_ ((by rw [hg]; exact (below_size (by repeat (first | (with_reducible first | exact HB.out | apply ai_ | apply ag_ | apply ah_) | exact HB.out))) : w.heap.size ≤ gb101)); clear HB; have HB := n0_; have BK101 := n1_; have GW101 := n2_; have GE101 := n3_; clear n0_ n1_ n2_ n3_; clear hb hbox hg; have hcz13_0 : w12.cell? ⟨gb101, 0, none⟩ = some (.int .i64 a0_0) := (am_ BK101.out 0).trans rfl; have hcz13_1 : w12.cell? ⟨gb101, 1, none⟩ = some (.int .i64 a0_1) := (am_ BK101.out 1).trans rfl; have hfz13_0 := al_ BK101.out 0; have hfz13_1 := al_ BK101.out 1) | (go_at_call 90; (with_reducible refine (spec_l3Arity.calls k a0_0 t104 _ A11.out).mono ?_); rintro e w' ⟨rfl, ⟨nd, rfl⟩⟩))
        go_ret
        exact ⟨by first | rfl | (simp [errW_none, errW_some] <;> rfl) | (simp [*, errW_none, errW_some] <;> rfl), by repeat (first | (with_reducible first | exact HB.out | apply ai_ | apply ag_ | apply ah_ | refine af_ ?_ GE101.out) | exact HB.out)⟩
      · rw [if_neg c10] at H
        have c10b0 : (a0_1 == 0) = false := beq_eq_false_iff_ne.mpr c10
        have c10b1 : (a0_1 != 0) = true := bne_iff_ne.mpr c10
        obtain rfl := Option.some.inj H
        go_enter Try.func89, Try.ntmps89
        go_wp2_with (first | ((with_reducible refine gate_dst (N := 1) rfl ?_); refine box_event ?hg (N := 1) ?hd (cs := #[.int .i64 a0_0, .int .i64 a0_1]) (t := 66) ?hr ?_; (case hd => rfl); (case hg => rfl); (case hr => first | (go_simp; done) | (go_simp; rfl)); intro gb101 hg w14 hbox hb; have n0_ := ab_ (ao_ (by repeat (first | (with_reducible first | exact HB.out | apply ai_ | apply ag_ | apply ah_) | exact HB.out)) hb); have n1_ := ab_ (hbox); have n2_ := ab_ ((by rw [hg]; exact (below_size (by repeat (first | (with_reducible first | exact HB.out | apply ai_ | apply ag_ | apply ah_) | exact HB.out))) : w.heap.size ≤ gb101)); have n3_ := ab_ ((by rw [hg]; exact (below_size (by repeat (first | (with_reducible first | exact HB.out | apply ai_ | apply ag_ | apply ah_) | exact HB.out))) : w.heap.size ≤ gb101)); clear HB; have HB := n0_; have BK101 := n1_; have GW101 := n2_; have GE101 := n3_; clear n0_ n1_ n2_ n3_; clear hb hbox hg; have hcz15_0 : w14.cell? ⟨gb101, 0, none⟩ = some (.int .i64 a0_0) := (am_ BK101.out 0).trans rfl; have hcz15_1 : w14.cell? ⟨gb101, 1, none⟩ = some (.int .i64 a0_1) := (am_ BK101.out 1).trans rfl; have hfz15_0 := al_ BK101.out 0; have hfz15_1 := al_ BK101.out 1))
        go_ret
        exact ⟨by first | rfl | (simp [errW_none, errW_some] <;> rfl) | (simp [*, errW_none, errW_some] <;> rfl), by repeat (first | (with_reducible first | exact HB.out | apply ai_ | apply ag_ | apply ah_ | refine af_ ?_ GE101.out) | exact HB.out)⟩
end Go.Proofs.Ytgoiifpimpnlpaa.PAll

end

section
namespace Go.Proofs.Ytgoiifpimpnlpaa.PAll
open Go.RowKit Go.Proofs.YtgoiifpimpnlpaaW.PrintWords Go.Proofs.YtgoiifpimpnlpaaW.PrintLast Go.Proofs.YtgoiifpimpnlpaaW.PrintMore
attribute [local go_sem] max2_int min2_int max_two min_two max_three min_three max_four min_four   -- for this text's walks alone
set_option linter.unusedVariables false
set_option linter.unusedSimpArgs false
mutual
def spec_l3Read.j0 : Nat → List (S66) → Int → Bool → Option (Int × Int × (List (S62)) × Int)
  | 0, _, _, _ => none
  | k + 1, x0, x1, x21 => if x21 = true then (some (0, 0, ([] : List (S62)), 0)) else (if 0 ≤ x1 then (if x1 < (x0.length : Int) then ((spec_l3Arity.f k ((rd_T66 x0 x1).f0)).bind fun t111 => (spec_l3Read.l0 k x0 (wrap64 (x1 + 1)) t111 ((rd_T66 x0 x1).f0) ((rd_T66 x0 x1).f1) ([] : List (S62)))) else (none)) else (none))
def spec_l3Read.l0 : Nat → List (S66) → Int → Int → Int → Int → List (S62) → Option (Int × Int × (List (S62)) × Int)
  | 0, _, _, _, _, _, _ => none
  | k + 1, x0, x1, x7, x111000, x111001, x111002 => if x7 > 0 then ((spec_l3Read.f k x0 x1).bind fun bt112 => (if bt112.2.2.2 = 0 then (some (0, 0, ([] : List (S62)), 0)) else (if x111002.length < 3518437208883 then (spec_l3Read.l0 k x0 bt112.2.2.2 (wrap64 (x7 - 1)) x111000 x111001 (x111002 ++ [(⟨bt112.1, bt112.2.1, bt112.2.2.1⟩ : S62)])) else (none)))) else (some (x111000, x111001, x111002, x1))
def spec_l3Read.f : Nat → List (S66) → Int → Option (Int × Int × (List (S62)) × Int)
  | 0, _, _ => none
  | k + 1, l0, a1 => if a1 ≥ (l0.length : Int) then (spec_l3Read.j0 k l0 a1 true) else (if 0 ≤ a1 then (if a1 < (l0.length : Int) then ((spec_l3Cell.f k ((rd_T66 l0 a1).f0) ((rd_T66 l0 a1).f1)).bind fun t107 => (spec_l3Read.j0 k l0 a1 (!t107))) else (none)) else (none))
end
def spec_l3Read.T3 : Bool × List (List Nat × List Nat) := (true, [([], []), ([], []), ([0, 1], [0, 1]), ([2], [2]), ([3], [3]), ([], []), ([], []), ([5, 6], [5, 6]), ([7], [7]), ([8], [8]), ([4, 9], [4, 9]), ([], []), ([11, 10, 0, 1, 2, 3, 4, 5, 6, 7, 8, 9, 10, 11], [10, 11])])
def spec_l3Read.B3 : List Nat := [0, 0, 3, 7, 15, 0, 0, 96, 224, 480, 1023, 0, 4095]
theorem spec_l3Read.tab3 : rtab .any (opsOf Try.f51 3) = spec_l3Read.T3 := by kernel_rfl
theorem spec_l3Read.bits3 : waitsOk spec_l3Read.T3.2 spec_l3Read.B3 = true := by kernel_rfl
set_option maxHeartbeats 8000000 in
set_option maxRecDepth 100000 in
theorem spec_l3Read.calls (k : Nat) : ∀ (A0 : Option Addr) (c0 : Nat) (l0 : List (S66)) (a1 : Int) (r1 : Int) (r2 : Int) (r3 : List (S62)) (r4 : Int) (w : World) (hr0 : Kd.C k66 w A0 l0.length l0) (hc0 : l0.length ≤ c0) (h : spec_l3Read.f k l0 a1 = some (r1, r2, r3, r4)),
    Calls Try.prog 51 #[.slice A0 l0.length c0, .int .i64 a1] w fun e w' => ∃ v2_ : Value, e = .returned (.tuple #[.agg #[.int .i64 r1, .int .i64 r2, v2_], .int .i64 r4]) ∧ Kd.R k62 62 w' w.heap.size (fun _ => True) v2_ r3 ∧ Below w.heap.size w w' := by
  induction k using Nat.strongRecOn with
  | _ k ih =>
  intro A0 c0 l0 a1 r1 r2 r3 r4 w hr0 hc0 h
  cases k with
  | zero => exact absurd h (by simp [spec_l3Read.f])
  | succ k =>
  simp only [spec_l3Read.f] at h
  have hu62 := Try.underlying62
  have hu66 := Try.underlying66
  have HR0 := ab_ hr0
  have HC0 := ab_ hc0
  clear hr0 hc0
  have HB := ab_ (Below.refl w.heap.size w)
  have H : (if a1 ≥ (l0.length : Int) then (spec_l3Read.j0 k l0 a1 true) else (if 0 ≤ a1 then (if a1 < (l0.length : Int) then ((spec_l3Cell.f k ((rd_T66 l0 a1).f0) ((rd_T66 l0 a1).f1)).bind fun t107 => (spec_l3Read.j0 k l0 a1 (!t107))) else (none)) else (none))) = some (r1, r2, r3, r4) := h
  clear h
  have HC3 := ab_ H
  clear H
  go_enter Try.func51, Try.ntmps51
  go_upto_region 1 with (first | ((with_reducible refine gate_dst (N := 4) rfl ?_); refine box_event ?hg (N := 4) ?hd (cs := #[.int .i64 0, .int .i64 0, .slice none 0 0]) (t := 62) ?hr ?_; (case hd => rfl); (case hg => rfl); (case hr => first | (go_simp; done) | (go_simp; rfl)); intro gb105 hg w4 hbox hb; have n0_ := ab_ (ao_ (by repeat (first | (with_reducible first | exact HB.out | apply ai_ | apply ag_ | apply ah_) | exact HB.out)) hb); have n1_ := ab_ (hbox); have n2_ := ab_ ((by rw [hg]; exact (below_size (by repeat (first | (with_reducible first | exact HB.out | apply ai_ | apply ag_ | apply ah_) | exact HB.out))) : w.heap.size ≤ gb105)); have n3_ := ab_ ((by rw [hg]; exact (below_size (by repeat (first | (with_reducible first | exact HB.out | apply ai_ | apply ag_ | apply ah_) | exact HB.out))) : w.heap.size ≤ gb105)); clear HB; have HB := n0_; have BK105 := n1_; have GW105 := n2_; have GE105 := n3_; clear n0_ n1_ n2_ n3_; clear hb hbox hg))
  (try simp only [Act.put, List.setIfInBounds_toArray, List.set_cons_zero, List.set_cons_succ])
  go_cut [21] (fun v21 wc => ∃ (kq : Nat) (x21_2 : Bool), v21 = .bool x21_2 ∧ Aside0 (spec_l3Read.j0 kq l0 a1 x21_2 = some (r1, r2, r3, r4)) ∧ Aside0 (kq ≤ k) ∧ Aside0 (wc.heap[gb105]? = some (.cells #[.int .i64 0, .int .i64 0, (.slice none 0 0)] 62 (0, 0))) ∧ Aside0 (Below w.heap.size w wc))
  case first =>
    have H := HC3.out
    clear HC3
    by_cases c5 : a1 ≥ (l0.length : Int)
    · rw [if_pos c5] at H
      have c5b0 : decide ((l0.length : Int) ≤ a1) = true := an_ c5
      clear c5
      (first | rw [c5b0] | (simp only [i64_w, i32_w]; rw [c5b0]) | skip)
      have H' := ab_ H
      clear H
      go_wp2
      go_meet
      case rel => exact ⟨_, (true), (by first | rfl | (simp; done) | (simp [*]; done)), H', ⟨by first | omega | exact Nat.le_refl _⟩, ⟨by (with_reducible repeat (first | refine ac_ ?_ _ | refine ae_ ?_ | refine ad_ ?_ _)); exact BK105.out⟩, ⟨by repeat (first | (with_reducible first | exact HB.out | apply ai_ | apply ag_ | apply ah_ | refine af_ ?_ GE105.out) | exact HB.out)⟩⟩
    · rw [if_neg c5] at H
      have c5b0 : decide ((l0.length : Int) ≤ a1) = false := decide_eq_false c5
      clear c5
      (first | rw [c5b0] | (simp only [i64_w, i32_w]; rw [c5b0]) | skip)
      by_cases c6 : 0 ≤ a1
      · rw [if_pos c6] at H
        have c6b0 : decide (0 ≤ a1) = true := an_ c6
        clear c6
        by_cases c7 : a1 < (l0.length : Int)
        · rw [if_pos c7] at H
          have c7b0 : decide (a1 < (l0.length : Int)) = true := an_ c7
          clear c7
          replace H := Option.bind_eq_some_iff.mp H
          obtain ⟨t107, A80, H⟩ := H
          replace H : (spec_l3Read.j0 k l0 a1 (!t107)) = some (r1, r2, r3, r4) := H
          have A8 := ab_ A80
          clear A80
          have H' := ab_ H
          clear H
          have p106 : 0 ≤ (a1 : Int) := of_decide_eq_true (by first | (with_reducible assumption) | assumption)
          have q106 : a1 < (l0.length : Int) := of_decide_eq_true (by first | (with_reducible assumption) | assumption)
          obtain ⟨ad106, e106, hx106_0, hx106_1⟩ := at_T66 HR0.out a1 p106 q106
          cases e106
          replace hx106_0 := (HB.out.cell (aa_ w _ hx106_0)).trans hx106_0
          replace hx106_1 := (HB.out.cell (aa_ w _ hx106_1)).trans hx106_1
          replace p106 := eq_true p106
          replace q106 := eq_true q106
          go_wp2_with (first | (go_at_call 89; (with_reducible refine (spec_l3Cell.calls k ((rd_T66 l0 a1).f0) ((rd_T66 l0 a1).f1) t107 _ A8.out).mono ?_); rintro e w9 ⟨rfl, hb⟩; have n0_ := ab_ (blk_below (g := gb105) (o := .cells #[.int .i64 0, .int .i64 0, .slice none 0 0] 62 (0, 0)) (by (with_reducible repeat (first | refine ac_ ?_ _ | refine ae_ ?_ | refine ad_ ?_ _)); exact BK105.out) hb); have n1_ := ab_ (ao_ (by repeat (first | (with_reducible first | exact HB.out | apply ai_ | apply ag_ | apply ah_ | refine af_ ?_ GE105.out) | exact HB.out)) hb); clear BK105; clear HB; have BK105 := n0_; have HB := n1_; clear n0_ n1_; (try clear hb); (try clear hb2); (try clear hk); (try clear hi)))
          go_meet
          case rel => exact ⟨_, (!t107), (by first | rfl | (simp; done) | (simp [*]; done)), H', ⟨by first | omega | exact Nat.le_refl _⟩, ⟨by (with_reducible repeat (first | refine ac_ ?_ _ | refine ae_ ?_ | refine ad_ ?_ _)); exact BK105.out⟩, ⟨by repeat (first | (with_reducible first | exact HB.out | apply ai_ | apply ag_ | apply ah_ | refine af_ ?_ GE105.out) | exact HB.out)⟩⟩
        · rw [if_neg c7] at H
          exact absurd H (by simp)
      · rw [if_neg c6] at H
        exact absurd H (by simp)
  case rest =>
    clear HC3
    try clear p1
    try clear q1
    try clear hx1
    try clear p2
    try clear c5
    try clear c5b0
    try clear c6
    try clear c6b0
    try clear c7
    try clear c7b0
    try clear hx106_0
    try clear hx106_1
    try clear p106
    try clear q106
    obtain ⟨kq, x21_2, rfl, HA, HJ2, BK105, HB⟩ := hcut
    cases kq with
    | zero => exact absurd HA.out (by simp [spec_l3Read.j0])
    | succ kj2 =>
      have H := HA.out
      clear HA
      simp only [spec_l3Read.j0] at H
      by_cases c10 : x21_2 = true
      · subst c10
        have H1 : (some (0, 0, ([] : List (S62)), 0)) = some (r1, r2, r3, r4) := by rw [if_pos rfl] at H; exact H
        clear H
        have H := H1
        clear H1
        simp only [Option.some.injEq, Prod.mk.injEq] at H
        obtain ⟨rfl, rfl, rfl, rfl⟩ := H
        have hcz11_0 : wc.cell? ⟨gb105, 0, none⟩ = some (.int .i64 0) := (am_ BK105.out 0).trans rfl
        have hcz11_1 : wc.cell? ⟨gb105, 1, none⟩ = some (.int .i64 0) := (am_ BK105.out 1).trans rfl
        have hcz11_2 : wc.cell? ⟨gb105, 2, none⟩ = some (.slice none 0 0) := (am_ BK105.out 2).trans rfl
        have hfz11_0 := al_ BK105.out 0
        have hfz11_1 := al_ BK105.out 1
        have hfz11_2 := al_ BK105.out 2
        go_wp2
        refine bodyPost_ret (results_ct rfl _ _ gb105 62 #[.int .i64 0, .int .i64 0, .slice none 0 0] (0, 0) _ rfl (by (with_reducible repeat (first | refine ac_ ?_ _ | refine ae_ ?_ | refine ad_ ?_ _)); refine blk_put (cs := #[.int .i64 0, .int .i64 0, .slice none 0 0]) ?_ 2 _ rfl; (with_reducible repeat (first | refine ac_ ?_ _ | refine ae_ ?_ | refine ad_ ?_ _)); refine blk_put (cs := #[.int .i64 0, .int .i64 0, .slice none 0 0]) ?_ 1 _ rfl; (with_reducible repeat (first | refine ac_ ?_ _ | refine ae_ ?_ | refine ad_ ?_ _)); refine blk_put (cs := #[.int .i64 0, .int .i64 0, .slice none 0 0]) ?_ 0 _ rfl; (with_reducible repeat (first | refine ac_ ?_ _ | refine ae_ ?_ | refine ad_ ?_ _)); exact BK105.out) Try.underlying62 rfl (by kernel_rfl)) rfl ?_
        exact ⟨_, by first | rfl | (simp [errW_none, errW_some] <;> rfl) | (simp [*, errW_none, errW_some] <;> rfl), by first | exact Kd.R_nil _ _ _ _ _ | exact Kd.N_nil _ _ _ _ _ | exact Kd.V_nil _ _ _ _ _ | exact Kd.Q_nil _ _ _ _ _ | exact Kd.S_nil _ _ _ _ _, by repeat (first | (with_reducible first | exact HB.out | apply ai_ | apply ag_ | apply ah_ | refine af_ ?_ GE105.out) | exact HB.out)⟩
      · replace c10 := Bool.eq_false_iff.mpr c10
        subst c10
        have H1 : (if 0 ≤ a1 then (if a1 < (l0.length : Int) then ((spec_l3Arity.f kj2 ((rd_T66 l0 a1).f0)).bind fun t111 => (spec_l3Read.l0 kj2 l0 (wrap64 (a1 + 1)) t111 ((rd_T66 l0 a1).f0) ((rd_T66 l0 a1).f1) ([] : List (S62)))) else (none)) else (none)) = some (r1, r2, r3, r4) := by rw [if_neg (show ¬ (false = true) by decide)] at H; exact H
        clear H
        have H := H1
        clear H1
        by_cases c12 : 0 ≤ a1
        · rw [if_pos c12] at H
          have c12b0 : decide (0 ≤ a1) = true := an_ c12
          clear c12
          by_cases c13 : a1 < (l0.length : Int)
          · rw [if_pos c13] at H
            have c13b0 : decide (a1 < (l0.length : Int)) = true := an_ c13
            clear c13
            replace H := Option.bind_eq_some_iff.mp H
            obtain ⟨t111, A140, H⟩ := H
            replace H : (spec_l3Read.l0 kj2 l0 (wrap64 (a1 + 1)) t111 ((rd_T66 l0 a1).f0) ((rd_T66 l0 a1).f1) ([] : List (S62))) = some (r1, r2, r3, r4) := H
            have A14 := ab_ A140
            clear A140
            have H' := ab_ H
            clear H
            try go_wp2
            have n0_ := ab_ (ae_ BK105.out)
            have n1_ := ab_ (ah_ HB.out)
            clear BK105
            clear HB
            have BK105 := n0_
            have HB := n1_
            clear n0_ n1_
            have p108 : 0 ≤ (a1 : Int) := of_decide_eq_true (by first | (with_reducible assumption) | assumption)
            have q108 : a1 < (l0.length : Int) := of_decide_eq_true (by first | (with_reducible assumption) | assumption)
            obtain ⟨ad108, e108, hx108_0, hx108_1⟩ := at_T66 HR0.out a1 p108 q108
            have hw108_1 := hx108_1
            have hw108_0 := hx108_0
            cases e108
            replace hx108_0 := (HB.out.cell (aa_ w _ hx108_0)).trans hx108_0
            replace hx108_1 := (HB.out.cell (aa_ w _ hx108_1)).trans hx108_1
            replace p108 := eq_true p108
            replace q108 := eq_true q108
            have p109 : 0 ≤ (a1 : Int) := of_decide_eq_true (by first | (with_reducible assumption) | assumption)
            have q109 : a1 < (l0.length : Int) := of_decide_eq_true (by first | (with_reducible assumption) | assumption)
            obtain ⟨ad109, e109, hx109_0, hx109_1⟩ := at_T66 HR0.out a1 p109 q109
            have hw109_1 := hx109_1
            have hw109_0 := hx109_0
            obtain rfl : ad108 = ad109 := (by injection e109)
            replace hx109_0 := (HB.out.cell (aa_ w _ hx109_0)).trans hx109_0
            replace hx109_1 := (HB.out.cell (aa_ w _ hx109_1)).trans hx109_1
            replace p109 := eq_true p109
            replace q109 := eq_true q109
            refine start_ (n := 13) (S := fun w' => w'.cell? (ad108.add ((a1).toNat * 2)) = some (.int .i64 ((rd_T66 l0 a1).f0)) ∧ w'.cell? ⟨(ad108.add ((a1).toNat * 2)).block, (ad108.add ((a1).toNat * 2)).off + 1, none⟩ = some (.int .i64 ((rd_T66 l0 a1).f1)) ∧ w'.cell? (ad108.add ((a1).toNat * 2)) = some (.int .i64 ((rd_T66 l0 a1).f0)) ∧ w'.cell? ⟨(ad108.add ((a1).toNat * 2)).block, (ad108.add ((a1).toNat * 2)).off + 1, none⟩ = some (.int .i64 ((rd_T66 l0 a1).f1))) (ds := []) #[false, false, false, false, false, false, false, false, false, false, false, false, false] (by kernel_rfl) rfl rfl ⟨((HB.out.cell (aa_ w _ hw108_0)).trans hw108_0), ((HB.out.cell (aa_ w _ hw108_1)).trans hw108_1), ((HB.out.cell (aa_ w _ hw109_0)).trans hw109_0), ((HB.out.cell (aa_ w _ hw109_1)).trans hw109_1)⟩ (fun hHeld => ?_); refine with_tabW spec_l3Read.tab3 spec_l3Read.bits3 (fun HT_ HW_ => ?_)
            generalize wc.drew = w15 at BK105 HB hx108_0 hx108_1 hx109_0 hx109_1 hHeld ⊢
            refine pure_ (i := 0) (N := some 23) (v := ?_) (a' := ?_) #[true, false, false, false, false, false, false, false, false, false, false, false, false] rfl rfl (any_of HT_.out (by kernel_rfl)) (fun _ _ _ h => h) (Or.inl ⟨by rfl, ?_⟩) ?_ ?_
            rotate_left
            · intro w'
              go_simp
              with_reducible rfl
            rotate_left
            · simp only [Act.put, List.setIfInBounds_toArray, List.set_cons_zero, List.set_cons_succ, i64_w, i32_w]
              rfl
            refine pure_ (i := 1) (N := some 24) (v := ?_) (a' := ?_) #[true, true, false, false, false, false, false, false, false, false, false, false, false] rfl rfl (any_of HT_.out (by kernel_rfl)) (fun _ _ _ h => h) (Or.inl ⟨by rfl, ?_⟩) ?_ ?_
            rotate_left
            · intro w'
              go_simp
              with_reducible rfl
            rotate_left
            · simp only [Act.put, List.setIfInBounds_toArray, List.set_cons_zero, List.set_cons_succ, i64_w, i32_w]
              rfl
            refine pure_ (i := 2) (N := some 25) (v := ?_) (a' := ?_) #[true, true, true, false, false, false, false, false, false, false, false, false, false] rfl rfl (any_of HT_.out (by kernel_rfl)) (fun _ _ _ h => h) (Or.inl ⟨by rfl, ?_⟩) ?_ ?_
            rotate_left
            · intro w'
              go_simp
              with_reducible rfl
            rotate_left
            · simp only [Act.put, List.setIfInBounds_toArray, List.set_cons_zero, List.set_cons_succ, i64_w, i32_w]
              rfl
            refine pure_ (i := 3) (N := some 26) (v := ?_) (a' := ?_) #[true, true, true, true, false, false, false, false, false, false, false, false, false] rfl rfl (any_of HT_.out (by kernel_rfl)) (fun _ _ _ h => h) (Or.inl ⟨by rfl, ?_⟩) ?_ ?_
            rotate_left
            · intro w'
              go_simp
              with_reducible rfl
            rotate_left
            · simp only [Act.put, List.setIfInBounds_toArray, List.set_cons_zero, List.set_cons_succ, i64_w, i32_w]
              rfl
            refine pure_ (i := 5) (N := some 28) (v := ?_) (a' := ?_) #[true, true, true, true, false, true, false, false, false, false, false, false, false] rfl rfl (any_of HT_.out (by kernel_rfl)) (fun _ _ _ h => h) (Or.inl ⟨by rfl, ?_⟩) ?_ ?_
            rotate_left
            · intro w'
              go_simp
              with_reducible rfl
            rotate_left
            · simp only [Act.put, List.setIfInBounds_toArray, List.set_cons_zero, List.set_cons_succ, i64_w, i32_w]
              rfl
            refine pure_ (i := 6) (N := some 29) (v := ?_) (a' := ?_) #[true, true, true, true, false, true, true, false, false, false, false, false, false] rfl rfl (any_of HT_.out (by kernel_rfl)) (fun _ _ _ h => h) (Or.inl ⟨by rfl, ?_⟩) ?_ ?_
            rotate_left
            · intro w'
              go_simp
              with_reducible rfl
            rotate_left
            · simp only [Act.put, List.setIfInBounds_toArray, List.set_cons_zero, List.set_cons_succ, i64_w, i32_w]
              rfl
            refine pure_ (i := 7) (N := some 30) (v := ?_) (a' := ?_) #[true, true, true, true, false, true, true, true, false, false, false, false, false] rfl rfl (any_of HT_.out (by kernel_rfl)) (fun _ _ _ h => h) (Or.inl ⟨by rfl, ?_⟩) ?_ ?_
            rotate_left
            · intro w'
              go_simp
              with_reducible rfl
            rotate_left
            · simp only [Act.put, List.setIfInBounds_toArray, List.set_cons_zero, List.set_cons_succ, i64_w, i32_w]
              rfl
            refine pure_ (i := 8) (N := some 31) (v := ?_) (a' := ?_) #[true, true, true, true, false, true, true, true, true, false, false, false, false] rfl rfl (any_of HT_.out (by kernel_rfl)) (fun _ _ _ h => h) (Or.inl ⟨by rfl, ?_⟩) ?_ ?_
            rotate_left
            · intro w'
              go_simp
              with_reducible rfl
            rotate_left
            · simp only [Act.put, List.setIfInBounds_toArray, List.set_cons_zero, List.set_cons_succ, i64_w, i32_w]
              rfl
            refine take_ (i := 4) (N := some 27) (v := ?_) (a' := ?_) #[true, true, true, true, true, true, true, true, true, false, false, false, false] rfl rfl (take_ofW HT_.out HW_.out (by kernel_rfl)) (fun _ _ _ h => h) (Or.inl ⟨by rfl, ?_⟩) hHeld ?_ ?_
            rotate_left
            · rintro w' ⟨s0, s1, s2, s3⟩
              go_simp
              with_reducible rfl
            rotate_left
            · simp only [Act.put, List.setIfInBounds_toArray, List.set_cons_zero, List.set_cons_succ, i64_w, i32_w]
              rfl
            refine take_ (i := 9) (N := some 32) (v := ?_) (a' := ?_) #[true, true, true, true, true, true, true, true, true, true, false, false, false] rfl rfl (take_ofW HT_.out HW_.out (by kernel_rfl)) (fun _ _ _ h => h) (Or.inl ⟨by rfl, ?_⟩) hHeld ?_ ?_
            rotate_left
            · rintro w' ⟨s0, s1, s2, s3⟩
              go_simp
              with_reducible rfl
            rotate_left
            · simp only [Act.put, List.setIfInBounds_toArray, List.set_cons_zero, List.set_cons_succ, i64_w, i32_w]
              rfl
            refine pure_ (i := 10) (N := some 33) (v := ?_) (a' := ?_) #[true, true, true, true, true, true, true, true, true, true, true, false, false] rfl rfl (any_of HT_.out (by kernel_rfl)) (fun _ _ _ h => h) (Or.inl ⟨by rfl, ?_⟩) ?_ ?_
            rotate_left
            · intro w'
              go_simp
              with_reducible rfl
            rotate_left
            · simp only [Act.put, List.setIfInBounds_toArray, List.set_cons_zero, List.set_cons_succ, i64_w, i32_w]
              rfl
            refine one_ (i := 11) (N := some 6) #[true, true, true, true, true, true, true, true, true, true, true, true, false] rfl rfl (one_of HT_.out (by kernel_rfl)) (by decide) (fun K hK => ?_)
            refine box_step ?hg (N := 6) ?hd (cs := #[.int .i64 0, .int .i64 0, .slice none 0 0]) (t := 62) ?hr ?_; (case hd => rfl); (case hg => rfl); (case hr => first | (go_simp; done) | (go_simp; rfl))
            intro gb110 hg w16 hbox hb
            have n0_ := ab_ (blk_below (g := gb105) (o := .cells #[.int .i64 0, .int .i64 0, .slice none 0 0] 62 (0, 0)) (by (with_reducible repeat (first | refine ac_ ?_ _ | refine ae_ ?_ | refine ad_ ?_ _)); exact BK105.out) hb)
            have n1_ := ab_ (ao_ (by repeat (first | (with_reducible first | exact HB.out | apply ai_ | apply ag_ | apply ah_ | refine af_ ?_ GE105.out) | exact HB.out)) hb)
            have n2_ := ab_ (hbox)
            have n3_ := ab_ ((by rw [hg]; exact (below_size (by repeat (first | (with_reducible first | exact HB.out | apply ai_ | apply ag_ | apply ah_ | refine af_ ?_ GE105.out) | exact HB.out))) : w.heap.size ≤ gb110))
            have n4_ := ab_ ((by rw [hg]; exact (below_size (by repeat (first | (with_reducible first | exact HB.out | apply ai_ | apply ag_ | apply ah_ | refine af_ ?_ GE105.out) | exact HB.out))) : w.heap.size ≤ gb110))
            have n5_ := ab_ ((by rw [hg]; exact ak_ (blk_lt (g := gb105) (o := .cells #[.int .i64 0, .int .i64 0, .slice none 0 0] 62 (0, 0)) (by (with_reducible repeat (first | refine ac_ ?_ _ | refine ae_ ?_ | refine ad_ ?_ _)); exact BK105.out)) : gb105 ≠ gb110))
            have n6_ := ab_ ((by rw [hg]; exact Nat.ne_of_gt (blk_lt (g := gb105) (o := .cells #[.int .i64 0, .int .i64 0, .slice none 0 0] 62 (0, 0)) (by (with_reducible repeat (first | refine ac_ ?_ _ | refine ae_ ?_ | refine ad_ ?_ _)); exact BK105.out)) : gb110 ≠ gb105))
            clear BK105
            clear HB
            have BK105 := n0_
            have HB := n1_
            have BK110 := n2_
            have GW110 := n3_
            have GE110 := n4_
            have NB105_110 := n5_
            have NB110_105 := n6_
            clear n0_ n1_ n2_ n3_ n4_ n5_ n6_
            clear hb hbox hg
            refine hK.out _ _ ⟨((HB.out.cell (aa_ w _ hw108_0)).trans hw108_0), ((HB.out.cell (aa_ w _ hw108_1)).trans hw108_1), ((HB.out.cell (aa_ w _ hw109_0)).trans hw109_0), ((HB.out.cell (aa_ w _ hw109_1)).trans hw109_1)⟩ (fun hHeld => ?_)
            clear hK K
            refine norm_ (a' := ?_) ?_ ?_
            rotate_left
            · show Act.put _ (some 6) _ = _
              simp only [Act.put, List.setIfInBounds_toArray, List.set_cons_zero, List.set_cons_succ, i64_w, i32_w]
              rfl
            refine one_ (i := 12) (N := none) #[true, true, true, true, true, true, true, true, true, true, true, true, true] rfl rfl (one_of HT_.out (by kernel_rfl)) (by decide) (fun K hK => ?_)
            have hs17 : w16.cell? ⟨gb110, 0, none⟩ = some (.int .i64 0) := (am_ BK110.out 0).trans rfl
            have hfs17 := al_ BK110.out 0
            have hns17_0 := NB105_110.out
            have hms17_0 := NB110_105.out
            have hs18 : w16.cell? ⟨gb110, 1, none⟩ = some (.int .i64 0) := (am_ BK110.out 1).trans rfl
            have hfs18 := al_ BK110.out 1
            have hns18_0 := NB105_110.out
            have hms18_0 := NB110_105.out
            have hs19 : w16.cell? ⟨gb110, 2, none⟩ = some (.slice none 0 0) := (am_ BK110.out 2).trans rfl
            have hfs19 := al_ BK110.out 2
            have hns19_0 := NB105_110.out
            have hms19_0 := NB110_105.out
            refine skip_ (w1 := ?_) (by rfl) rfl ?_ ?_
            rotate_left
            · go_simp
              rfl
            refine hK.out _ _ ⟨((cell_far (p := ⟨gb110, _, none⟩) (by first | exact ak_ (aj_ (by have := aa_ _ _ hw108_0; first | rwa [add_block] at this | exact this) GW110.out) | (rw [add_block]; exact ak_ (aj_ (by have := aa_ _ _ hw108_0; first | rwa [add_block] at this | exact this) GW110.out)) | (show (Addr.add _ _).block ≠ _; rw [add_block]; exact ak_ (aj_ (by have := aa_ _ _ hw108_0; first | rwa [add_block] at this | exact this) GW110.out)) | (dsimp only; exact ak_ (aj_ (by have := aa_ _ _ hw108_0; first | rwa [add_block] at this | exact this) GW110.out))) _).trans (((cell_far (p := ⟨gb110, _, none⟩) (by first | exact ak_ (aj_ (by have := aa_ _ _ hw108_0; first | rwa [add_block] at this | exact this) GW110.out) | (rw [add_block]; exact ak_ (aj_ (by have := aa_ _ _ hw108_0; first | rwa [add_block] at this | exact this) GW110.out)) | (show (Addr.add _ _).block ≠ _; rw [add_block]; exact ak_ (aj_ (by have := aa_ _ _ hw108_0; first | rwa [add_block] at this | exact this) GW110.out)) | (dsimp only; exact ak_ (aj_ (by have := aa_ _ _ hw108_0; first | rwa [add_block] at this | exact this) GW110.out))) _).trans (((cell_far (p := ⟨gb110, _, none⟩) (by first | exact ak_ (aj_ (by have := aa_ _ _ hw108_0; first | rwa [add_block] at this | exact this) GW110.out) | (rw [add_block]; exact ak_ (aj_ (by have := aa_ _ _ hw108_0; first | rwa [add_block] at this | exact this) GW110.out)) | (show (Addr.add _ _).block ≠ _; rw [add_block]; exact ak_ (aj_ (by have := aa_ _ _ hw108_0; first | rwa [add_block] at this | exact this) GW110.out)) | (dsimp only; exact ak_ (aj_ (by have := aa_ _ _ hw108_0; first | rwa [add_block] at this | exact this) GW110.out))) _).trans (hHeld.1)))))), ((cell_far (p := ⟨gb110, _, none⟩) (by first | exact ak_ (aj_ (by have := aa_ _ _ hw108_1; first | rwa [add_block] at this | exact this) GW110.out) | (rw [add_block]; exact ak_ (aj_ (by have := aa_ _ _ hw108_1; first | rwa [add_block] at this | exact this) GW110.out)) | (show (Addr.add _ _).block ≠ _; rw [add_block]; exact ak_ (aj_ (by have := aa_ _ _ hw108_1; first | rwa [add_block] at this | exact this) GW110.out)) | (dsimp only; exact ak_ (aj_ (by have := aa_ _ _ hw108_1; first | rwa [add_block] at this | exact this) GW110.out))) _).trans (((cell_far (p := ⟨gb110, _, none⟩) (by first | exact ak_ (aj_ (by have := aa_ _ _ hw108_1; first | rwa [add_block] at this | exact this) GW110.out) | (rw [add_block]; exact ak_ (aj_ (by have := aa_ _ _ hw108_1; first | rwa [add_block] at this | exact this) GW110.out)) | (show (Addr.add _ _).block ≠ _; rw [add_block]; exact ak_ (aj_ (by have := aa_ _ _ hw108_1; first | rwa [add_block] at this | exact this) GW110.out)) | (dsimp only; exact ak_ (aj_ (by have := aa_ _ _ hw108_1; first | rwa [add_block] at this | exact this) GW110.out))) _).trans (((cell_far (p := ⟨gb110, _, none⟩) (by first | exact ak_ (aj_ (by have := aa_ _ _ hw108_1; first | rwa [add_block] at this | exact this) GW110.out) | (rw [add_block]; exact ak_ (aj_ (by have := aa_ _ _ hw108_1; first | rwa [add_block] at this | exact this) GW110.out)) | (show (Addr.add _ _).block ≠ _; rw [add_block]; exact ak_ (aj_ (by have := aa_ _ _ hw108_1; first | rwa [add_block] at this | exact this) GW110.out)) | (dsimp only; exact ak_ (aj_ (by have := aa_ _ _ hw108_1; first | rwa [add_block] at this | exact this) GW110.out))) _).trans (hHeld.2.1)))))), ((cell_far (p := ⟨gb110, _, none⟩) (by first | exact ak_ (aj_ (by have := aa_ _ _ hw109_0; first | rwa [add_block] at this | exact this) GW110.out) | (rw [add_block]; exact ak_ (aj_ (by have := aa_ _ _ hw109_0; first | rwa [add_block] at this | exact this) GW110.out)) | (show (Addr.add _ _).block ≠ _; rw [add_block]; exact ak_ (aj_ (by have := aa_ _ _ hw109_0; first | rwa [add_block] at this | exact this) GW110.out)) | (dsimp only; exact ak_ (aj_ (by have := aa_ _ _ hw109_0; first | rwa [add_block] at this | exact this) GW110.out))) _).trans (((cell_far (p := ⟨gb110, _, none⟩) (by first | exact ak_ (aj_ (by have := aa_ _ _ hw109_0; first | rwa [add_block] at this | exact this) GW110.out) | (rw [add_block]; exact ak_ (aj_ (by have := aa_ _ _ hw109_0; first | rwa [add_block] at this | exact this) GW110.out)) | (show (Addr.add _ _).block ≠ _; rw [add_block]; exact ak_ (aj_ (by have := aa_ _ _ hw109_0; first | rwa [add_block] at this | exact this) GW110.out)) | (dsimp only; exact ak_ (aj_ (by have := aa_ _ _ hw109_0; first | rwa [add_block] at this | exact this) GW110.out))) _).trans (((cell_far (p := ⟨gb110, _, none⟩) (by first | exact ak_ (aj_ (by have := aa_ _ _ hw109_0; first | rwa [add_block] at this | exact this) GW110.out) | (rw [add_block]; exact ak_ (aj_ (by have := aa_ _ _ hw109_0; first | rwa [add_block] at this | exact this) GW110.out)) | (show (Addr.add _ _).block ≠ _; rw [add_block]; exact ak_ (aj_ (by have := aa_ _ _ hw109_0; first | rwa [add_block] at this | exact this) GW110.out)) | (dsimp only; exact ak_ (aj_ (by have := aa_ _ _ hw109_0; first | rwa [add_block] at this | exact this) GW110.out))) _).trans (hHeld.2.2.1)))))), ((cell_far (p := ⟨gb110, _, none⟩) (by first | exact ak_ (aj_ (by have := aa_ _ _ hw109_1; first | rwa [add_block] at this | exact this) GW110.out) | (rw [add_block]; exact ak_ (aj_ (by have := aa_ _ _ hw109_1; first | rwa [add_block] at this | exact this) GW110.out)) | (show (Addr.add _ _).block ≠ _; rw [add_block]; exact ak_ (aj_ (by have := aa_ _ _ hw109_1; first | rwa [add_block] at this | exact this) GW110.out)) | (dsimp only; exact ak_ (aj_ (by have := aa_ _ _ hw109_1; first | rwa [add_block] at this | exact this) GW110.out))) _).trans (((cell_far (p := ⟨gb110, _, none⟩) (by first | exact ak_ (aj_ (by have := aa_ _ _ hw109_1; first | rwa [add_block] at this | exact this) GW110.out) | (rw [add_block]; exact ak_ (aj_ (by have := aa_ _ _ hw109_1; first | rwa [add_block] at this | exact this) GW110.out)) | (show (Addr.add _ _).block ≠ _; rw [add_block]; exact ak_ (aj_ (by have := aa_ _ _ hw109_1; first | rwa [add_block] at this | exact this) GW110.out)) | (dsimp only; exact ak_ (aj_ (by have := aa_ _ _ hw109_1; first | rwa [add_block] at this | exact this) GW110.out))) _).trans (((cell_far (p := ⟨gb110, _, none⟩) (by first | exact ak_ (aj_ (by have := aa_ _ _ hw109_1; first | rwa [add_block] at this | exact this) GW110.out) | (rw [add_block]; exact ak_ (aj_ (by have := aa_ _ _ hw109_1; first | rwa [add_block] at this | exact this) GW110.out)) | (show (Addr.add _ _).block ≠ _; rw [add_block]; exact ak_ (aj_ (by have := aa_ _ _ hw109_1; first | rwa [add_block] at this | exact this) GW110.out)) | (dsimp only; exact ak_ (aj_ (by have := aa_ _ _ hw109_1; first | rwa [add_block] at this | exact this) GW110.out))) _).trans (hHeld.2.2.2))))))⟩ (fun hHeld => ?_)
            clear hK K
            refine done_ (done_of HT_.out (by kernel_rfl)) ?_
            have hnb20 := NB110_105.out
            have hnc20 := NB105_110.out
            have hcz21_0 : w16.cell? ⟨gb110, 0, none⟩ = some (.int .i64 0) := (am_ BK110.out 0).trans rfl
            have hcz21_1 : w16.cell? ⟨gb110, 1, none⟩ = some (.int .i64 0) := (am_ BK110.out 1).trans rfl
            have hcz21_2 : w16.cell? ⟨gb110, 2, none⟩ = some (.slice none 0 0) := (am_ BK110.out 2).trans rfl
            have hfz21_0 := al_ BK110.out 0
            have hfz21_1 := al_ BK110.out 1
            have hfz21_2 := al_ BK110.out 2
            try go_wp2_with (first | ((with_reducible refine gate_callee (f := 90) rfl ?_); refine goesL_ (some 36) rfl rfl Try.func90 (by kernel_rfl) rfl #[.int .i64 ((rd_T66 l0 a1).f0)] rfl (by (try simp only [List.map_toArray, List.map_cons, List.map_nil]); first | done | rfl | (simp only [List.length_drop, List.length_take]; rfl)) ?_; (with_reducible refine (spec_l3Arity.calls kj2 ((rd_T66 l0 a1).f0) t111 _ A14.out).mono ?_); rintro e w' ⟨rfl, ⟨nd, rfl⟩⟩; refine ⟨_, rfl, ?_⟩))
            go_loopg [1, 7] kj2 (fun kq v1 v7 w' => ∃ (x1_2 : Int) (x7_2 : Int) (x106000_2 : Int) (x106001_2 : Int) (x111002_2 : List (S62)) (u111002 : Value), v1 = .int .i64 x1_2 ∧ v7 = .int .i64 x7_2 ∧ Aside0 (spec_l3Read.l0 kq l0 x1_2 x7_2 ((rd_T66 l0 a1).f0) ((rd_T66 l0 a1).f1) x111002_2 = some (r1, r2, r3, r4)) ∧ Aside0 (kq ≤ kj2) ∧ Aside0 (Kd.R k62 62 w' w.heap.size (fun k_ => k_ ≠ gb105 ∧ k_ ≠ gb110) u111002 x111002_2) ∧ Aside0 (w'.heap[gb105]? = some (.cells #[.int .i64 x106000_2, .int .i64 x106001_2, (.slice none 0 0)] 62 (0, 0))) ∧ Aside0 (w'.heap[gb110]? = some (.cells #[.int .i64 ((rd_T66 l0 a1).f0), .int .i64 ((rd_T66 l0 a1).f1), u111002] 62 (0, 0))) ∧ Aside0 (Below w.heap.size w w'))
            case atStart => exact ⟨(wrap64 (a1 + 1)), (t111), (0), (0), (([] : List (S62))), (.slice none 0 0), (by first | rfl | (simp; done) | (simp [*]; done)), (by first | rfl | (simp; done) | (simp [*]; done)), H', ⟨Nat.le_refl _⟩, ⟨by first | exact Kd.R_nil _ _ _ _ _ | exact Kd.N_nil _ _ _ _ _ | exact Kd.V_nil _ _ _ _ _ | exact Kd.Q_nil _ _ _ _ _ | exact Kd.S_nil _ _ _ _ _⟩, ⟨by (with_reducible repeat (first | refine ac_ ?_ _ | refine ae_ ?_ | refine ad_ ?_ _)); refine blk_far ?_ NB105_110.out _; (with_reducible repeat (first | refine ac_ ?_ _ | refine ae_ ?_ | refine ad_ ?_ _)); refine blk_far ?_ NB105_110.out _; (with_reducible repeat (first | refine ac_ ?_ _ | refine ae_ ?_ | refine ad_ ?_ _)); refine blk_far ?_ NB105_110.out _; (with_reducible repeat (first | refine ac_ ?_ _ | refine ae_ ?_ | refine ad_ ?_ _)); exact BK105.out⟩, ⟨by (with_reducible repeat (first | refine ac_ ?_ _ | refine ae_ ?_ | refine ad_ ?_ _)); refine blk_put (cs := #[.int .i64 ((rd_T66 l0 a1).f0), .int .i64 ((rd_T66 l0 a1).f1), .slice none 0 0]) ?_ 2 _ rfl; (with_reducible repeat (first | refine ac_ ?_ _ | refine ae_ ?_ | refine ad_ ?_ _)); refine blk_put (cs := #[.int .i64 ((rd_T66 l0 a1).f0), .int .i64 0, .slice none 0 0]) ?_ 1 _ rfl; (with_reducible repeat (first | refine ac_ ?_ _ | refine ae_ ?_ | refine ad_ ?_ _)); refine blk_put (cs := #[.int .i64 0, .int .i64 0, .slice none 0 0]) ?_ 0 _ rfl; (with_reducible repeat (first | refine ac_ ?_ _ | refine ae_ ?_ | refine ad_ ?_ _)); exact BK110.out⟩, ⟨by repeat (first | (with_reducible first | exact HB.out | apply ai_ | apply ag_ | apply ah_ | refine af_ ?_ GE105.out | refine af_ ?_ GE110.out) | exact HB.out)⟩⟩
            case round =>
              clear H'
              try clear c1
              try clear p1
              try clear q1
              try clear hx1
              try clear c2
              try clear p2
              try clear c5
              try clear c5b0
              try clear c6
              try clear c6b0
              try clear p6
              try clear c7
              try clear c7b0
              try clear c9
              try clear c10
              try clear p10
              try clear q10
              try clear hx10
              try clear c12
              try clear c12b0
              try clear c13
              try clear c13b0
              try clear c20
              try clear hcz11_0
              try clear hcz11_1
              try clear hcz11_2
              try clear hcz21_0
              try clear hcz21_1
              try clear hcz21_2
              try clear hfz11_0
              try clear hfz11_1
              try clear hfz11_2
              try clear hfz21_0
              try clear hfz21_1
              try clear hfz21_2
              try clear hx106_0
              try clear hx106_1
              try clear hx108_0
              try clear hx108_1
              try clear hx109_0
              try clear hx109_1
              try clear p1
              try clear p106
              try clear p108
              try clear p109
              try clear p2
              try clear q1
              try clear q106
              try clear q108
              try clear q109
              obtain ⟨x1_2, x7_2, x106000_2, x106001_2, x111002_2, u111002, rfl, rfl, HA, HK2, HO_111002, BK105, BK110, HB⟩ := hrel
              cases gk with
              | zero => exact absurd HA.out (by simp [spec_l3Read.l0])
              | succ k2 =>
                have H := HA.out
                clear HA
                simp only [spec_l3Read.l0] at H
                by_cases c22 : x7_2 > 0
                · rw [if_pos c22] at H
                  have c22b0 : decide (0 < x7_2) = true := an_ c22
                  clear c22
                  replace H := Option.bind_eq_some_iff.mp H
                  obtain ⟨⟨t112, t113, t114, t117⟩, A230, H⟩ := H
                  replace H : (if t117 = 0 then (some (0, 0, ([] : List (S62)), 0)) else (if x111002_2.length < 3518437208883 then (spec_l3Read.l0 k2 l0 t117 (wrap64 (x7_2 - 1)) ((rd_T66 l0 a1).f0) ((rd_T66 l0 a1).f1) (x111002_2 ++ [(⟨t112, t113, t114⟩ : S62)])) else (none))) = some (r1, r2, r3, r4) := H
                  have A23 := ab_ A230
                  clear A230
                  by_cases c24 : t117 = 0
                  · rw [if_pos c24] at H
                    have c24b0 : (t117 == 0) = true := beq_iff_eq.mpr c24
                    have c24b1 : (t117 != 0) = false := bne_eq_false_iff_eq.mpr c24
                    clear c24
                    simp only [Option.some.injEq, Prod.mk.injEq] at H
                    obtain ⟨rfl, rfl, rfl, rfl⟩ := H
                    go_wp2_with (first | ((with_reducible refine gate_callee (f := 51) rfl ?_); refine goesL_ (some 46) rfl rfl Try.func51 (by kernel_rfl) rfl #[.slice (some ad108) l0.length c0, .int .i64 x1_2] rfl (by (try simp only [List.map_toArray, List.map_cons, List.map_nil]); first | done | rfl | (simp only [List.length_drop, List.length_take]; rfl)) ?_; (with_reducible refine (ih k2 (by have := HJ2.out; have := HK2.out; omega) _ _ l0 x1_2 t112 t113 t114 t117 _ ?side1 ?side2 A23.out).mono ?_); (case side1 => repeat (first | exact (Kd.C_below HR0.out HB.out) | (with_reducible refine Kd.C_alloc ?_ _) | (with_reducible refine Kd.C_drewN ?_ _) | (with_reducible refine Kd.C_drew ?_))); (case side2 => exact HC0.out); rintro e w25 ⟨v115, rfl, ho0, hb⟩; refine ⟨_, rfl, ?_⟩; have n0_ := ab_ (Kd.R_elder' (by (with_reducible repeat (first | apply Kd.R_alloc | apply Kd.R_drewN | apply Kd.R_drew)); exact HO_111002.out) (Kd.R_base ho0) hb); have n1_ := ab_ (Kd.R_lower (Kd.R_newB (Kd.R_newB (Kd.R_new' ho0 (Kd.R_lt (by (with_reducible repeat (first | apply Kd.R_alloc | apply Kd.R_drewN | apply Kd.R_drew)); exact HO_111002.out))) (g := gb105) (o := .cells #[.int .i64 x106000_2, .int .i64 x106001_2, .slice none 0 0] 62 (0, 0)) (by (with_reducible repeat (first | refine ac_ ?_ _ | refine ae_ ?_ | refine ad_ ?_ _)); exact BK105.out)) (g := gb110) (o := .cells #[.int .i64 ((rd_T66 l0 a1).f0), .int .i64 ((rd_T66 l0 a1).f1), u111002] 62 (0, 0)) (by (with_reducible repeat (first | refine ac_ ?_ _ | refine ae_ ?_ | refine ad_ ?_ _)); exact BK110.out)) (below_size (by repeat (first | (with_reducible first | exact HB.out | apply ai_ | apply ag_ | apply ah_ | refine af_ ?_ GE105.out | refine af_ ?_ GE110.out) | exact HB.out)))); have n2_ := ab_ (blk_below (g := gb105) (o := .cells #[.int .i64 x106000_2, .int .i64 x106001_2, .slice none 0 0] 62 (0, 0)) (by (with_reducible repeat (first | refine ac_ ?_ _ | refine ae_ ?_ | refine ad_ ?_ _)); exact BK105.out) hb); have n3_ := ab_ (blk_below (g := gb110) (o := .cells #[.int .i64 ((rd_T66 l0 a1).f0), .int .i64 ((rd_T66 l0 a1).f1), u111002] 62 (0, 0)) (by (with_reducible repeat (first | refine ac_ ?_ _ | refine ae_ ?_ | refine ad_ ?_ _)); exact BK110.out) hb); have n4_ := ab_ (ao_ (by repeat (first | (with_reducible first | exact HB.out | apply ai_ | apply ag_ | apply ah_ | refine af_ ?_ GE105.out | refine af_ ?_ GE110.out) | exact HB.out)) hb); clear HO_111002; clear BK105; clear BK110; clear HB; have HO_111002 := n0_; have HO116 := n1_; have BK105 := n2_; have BK110 := n3_; have HB := n4_; clear n0_ n1_ n2_ n3_ n4_; (try clear hb); (try clear hb2); (try clear hk); (try clear hi); (try clear ho0)) | ((with_reducible refine gate_dst (N := 8) rfl ?_); refine box_event ?hg (N := 8) ?hd (cs := #[.int .i64 0, .int .i64 0, .slice none 0 0]) (t := 62) ?hr ?_; (case hd => rfl); (case hg => rfl); (case hr => first | (go_simp; done) | (go_simp; rfl)); intro gb118 hg w26 hbox hb; have n0_ := ab_ (Kd.R_below (Kd.R_elderB (by (with_reducible repeat (first | apply Kd.R_alloc | apply Kd.R_drewN | apply Kd.R_drew)); exact HO_111002.out) gb118 (Nat.le_of_eq hg.symm)) hb); have n1_ := ab_ (Kd.R_below (Kd.R_elderB (by (with_reducible repeat (first | apply Kd.R_alloc | apply Kd.R_drewN | apply Kd.R_drew)); exact HO116.out) gb118 (Nat.le_of_eq hg.symm)) hb); have n2_ := ab_ (blk_below (g := gb105) (o := .cells #[.int .i64 x106000_2, .int .i64 x106001_2, .slice none 0 0] 62 (0, 0)) (by (with_reducible repeat (first | refine ac_ ?_ _ | refine ae_ ?_ | refine ad_ ?_ _)); exact BK105.out) hb); have n3_ := ab_ (blk_below (g := gb110) (o := .cells #[.int .i64 ((rd_T66 l0 a1).f0), .int .i64 ((rd_T66 l0 a1).f1), u111002] 62 (0, 0)) (by (with_reducible repeat (first | refine ac_ ?_ _ | refine ae_ ?_ | refine ad_ ?_ _)); exact BK110.out) hb); have n4_ := ab_ (ao_ (by repeat (first | (with_reducible first | exact HB.out | apply ai_ | apply ag_ | apply ah_ | refine af_ ?_ GE105.out | refine af_ ?_ GE110.out) | exact HB.out)) hb); have n5_ := ab_ (hbox); have n6_ := ab_ ((by rw [hg]; exact (below_size (by repeat (first | (with_reducible first | exact HB.out | apply ai_ | apply ag_ | apply ah_ | refine af_ ?_ GE105.out | refine af_ ?_ GE110.out) | exact HB.out))) : w.heap.size ≤ gb118)); have n7_ := ab_ ((by rw [hg]; exact (below_size (by repeat (first | (with_reducible first | exact HB.out | apply ai_ | apply ag_ | apply ah_ | refine af_ ?_ GE105.out | refine af_ ?_ GE110.out) | exact HB.out))) : w.heap.size ≤ gb118)); have n8_ := ab_ ((by rw [hg]; exact ak_ (blk_lt (g := gb105) (o := .cells #[.int .i64 x106000_2, .int .i64 x106001_2, .slice none 0 0] 62 (0, 0)) (by (with_reducible repeat (first | refine ac_ ?_ _ | refine ae_ ?_ | refine ad_ ?_ _)); exact BK105.out)) : gb105 ≠ gb118)); have n9_ := ab_ ((by rw [hg]; exact Nat.ne_of_gt (blk_lt (g := gb105) (o := .cells #[.int .i64 x106000_2, .int .i64 x106001_2, .slice none 0 0] 62 (0, 0)) (by (with_reducible repeat (first | refine ac_ ?_ _ | refine ae_ ?_ | refine ad_ ?_ _)); exact BK105.out)) : gb118 ≠ gb105)); have n10_ := ab_ ((by rw [hg]; exact ak_ (blk_lt (g := gb110) (o := .cells #[.int .i64 ((rd_T66 l0 a1).f0), .int .i64 ((rd_T66 l0 a1).f1), u111002] 62 (0, 0)) (by (with_reducible repeat (first | refine ac_ ?_ _ | refine ae_ ?_ | refine ad_ ?_ _)); exact BK110.out)) : gb110 ≠ gb118)); have n11_ := ab_ ((by rw [hg]; exact Nat.ne_of_gt (blk_lt (g := gb110) (o := .cells #[.int .i64 ((rd_T66 l0 a1).f0), .int .i64 ((rd_T66 l0 a1).f1), u111002] 62 (0, 0)) (by (with_reducible repeat (first | refine ac_ ?_ _ | refine ae_ ?_ | refine ad_ ?_ _)); exact BK110.out)) : gb118 ≠ gb110)); clear HO_111002; clear HO116; clear BK105; clear BK110; clear HB; have HO_111002 := n0_; have HO116 := n1_; have BK105 := n2_; have BK110 := n3_; have HB := n4_; have BK118 := n5_; have GW118 := n6_; have GE118 := n7_; have NB105_118 := n8_; have NB118_105 := n9_; have NB110_118 := n10_; have NB118_110 := n11_; clear n0_ n1_ n2_ n3_ n4_ n5_ n6_ n7_ n8_ n9_ n10_ n11_; clear hb hbox hg; have hnb27 := NB118_105.out; have hnc27 := NB105_118.out; have hnb28 := NB118_110.out; have hnc28 := NB110_118.out; have hcz29_0 : w26.cell? ⟨gb118, 0, none⟩ = some (.int .i64 0) := (am_ BK118.out 0).trans rfl; have hcz29_1 : w26.cell? ⟨gb118, 1, none⟩ = some (.int .i64 0) := (am_ BK118.out 1).trans rfl; have hcz29_2 : w26.cell? ⟨gb118, 2, none⟩ = some (.slice none 0 0) := (am_ BK118.out 2).trans rfl; have hfz29_0 := al_ BK118.out 0; have hfz29_1 := al_ BK118.out 1; have hfz29_2 := al_ BK118.out 2; obtain ⟨Ao30, co30, eo30⟩ := Kd.R_slice HO116.out; subst eo30; have hnb31 := NB105_110.out; have hnc31 := NB110_105.out; have hcz32_0 : w26.cell? ⟨gb105, 0, none⟩ = some (.int .i64 x106000_2) := (am_ BK105.out 0).trans rfl; have hcz32_1 : w26.cell? ⟨gb105, 1, none⟩ = some (.int .i64 x106001_2) := (am_ BK105.out 1).trans rfl; have hcz32_2 : w26.cell? ⟨gb105, 2, none⟩ = some (.slice none 0 0) := (am_ BK105.out 2).trans rfl; have hfz32_0 := al_ BK105.out 0; have hfz32_1 := al_ BK105.out 1; have hfz32_2 := al_ BK105.out 2))
                    refine bodyPost_ret (results_ct rfl _ _ gb105 62 #[.int .i64 0, .int .i64 0, .slice none 0 0] (0, 0) _ rfl (by (with_reducible repeat (first | refine ac_ ?_ _ | refine ae_ ?_ | refine ad_ ?_ _)); refine blk_put (cs := #[.int .i64 0, .int .i64 0, .slice none 0 0]) ?_ 2 _ rfl; (with_reducible repeat (first | refine ac_ ?_ _ | refine ae_ ?_ | refine ad_ ?_ _)); refine blk_put (cs := #[.int .i64 0, .int .i64 x106001_2, .slice none 0 0]) ?_ 1 _ rfl; (with_reducible repeat (first | refine ac_ ?_ _ | refine ae_ ?_ | refine ad_ ?_ _)); refine blk_put (cs := #[.int .i64 x106000_2, .int .i64 x106001_2, .slice none 0 0]) ?_ 0 _ rfl; (with_reducible repeat (first | refine ac_ ?_ _ | refine ae_ ?_ | refine ad_ ?_ _)); refine blk_far ?_ NB105_118.out _; (with_reducible repeat (first | refine ac_ ?_ _ | refine ae_ ?_ | refine ad_ ?_ _)); refine blk_far ?_ NB105_118.out _; (with_reducible repeat (first | refine ac_ ?_ _ | refine ae_ ?_ | refine ad_ ?_ _)); refine blk_far ?_ NB105_118.out _; (with_reducible repeat (first | refine ac_ ?_ _ | refine ae_ ?_ | refine ad_ ?_ _)); exact BK105.out) Try.underlying62 rfl (by kernel_rfl)) rfl ?_
                    exact ⟨_, by first | rfl | (simp [errW_none, errW_some] <;> rfl) | (simp [*, errW_none, errW_some] <;> rfl), by first | exact Kd.R_nil _ _ _ _ _ | exact Kd.N_nil _ _ _ _ _ | exact Kd.V_nil _ _ _ _ _ | exact Kd.Q_nil _ _ _ _ _ | exact Kd.S_nil _ _ _ _ _, by repeat (first | (with_reducible first | exact HB.out | apply ai_ | apply ag_ | apply ah_ | refine af_ ?_ GE105.out | refine af_ ?_ GE110.out | refine af_ ?_ GE118.out) | exact HB.out)⟩
                  · rw [if_neg c24] at H
                    have c24b0 : (t117 == 0) = false := beq_eq_false_iff_ne.mpr c24
                    have c24b1 : (t117 != 0) = true := bne_iff_ne.mpr c24
                    by_cases c33 : x111002_2.length < 3518437208883
                    · rw [if_pos c33] at H
                      have LMc33 := ab_ c33
                      clear c33
                      obtain ⟨y119, hy119⟩ : ∃ y_ : List (S62), y_ = (x111002_2 ++ [(⟨t112, t113, t114⟩ : S62)]) := ⟨_, rfl⟩
                      replace H : (spec_l3Read.l0 k2 l0 t117 (wrap64 (x7_2 - 1)) ((rd_T66 l0 a1).f0) ((rd_T66 l0 a1).f1) y119) = some (r1, r2, r3, r4) := by first | (rw [hy119]; with_reducible exact H) | (have H2_ := (Option.bind_some _ _).symm.trans H; rw [hy119]; with_reducible exact H2_) | (have H2_ := (Option.bind_some _ _).symm.trans H; with_reducible exact H2_) | with_reducible exact H | (rw [hy119]; exact H) | exact H
                      have Ny119 := ab_ hy119
                      clear hy119
                      have H' := ab_ H
                      clear H
                      go_wp2_with (first | ((with_reducible refine gate_callee (f := 51) rfl ?_); refine goesL_ (some 46) rfl rfl Try.func51 (by kernel_rfl) rfl #[.slice (some ad108) l0.length c0, .int .i64 x1_2] rfl (by (try simp only [List.map_toArray, List.map_cons, List.map_nil]); first | done | rfl | (simp only [List.length_drop, List.length_take]; rfl)) ?_; (with_reducible refine (ih k2 (by have := HJ2.out; have := HK2.out; omega) _ _ l0 x1_2 t112 t113 t114 t117 _ ?side1 ?side2 A23.out).mono ?_); (case side1 => repeat (first | exact (Kd.C_below HR0.out HB.out) | (with_reducible refine Kd.C_alloc ?_ _) | (with_reducible refine Kd.C_drewN ?_ _) | (with_reducible refine Kd.C_drew ?_))); (case side2 => exact HC0.out); rintro e w34 ⟨v115, rfl, ho0, hb⟩; refine ⟨_, rfl, ?_⟩; have n0_ := ab_ (Kd.R_elder' (by (with_reducible repeat (first | apply Kd.R_alloc | apply Kd.R_drewN | apply Kd.R_drew)); exact HO_111002.out) (Kd.R_base ho0) hb); have n1_ := ab_ (Kd.R_lower (Kd.R_newB (Kd.R_newB (Kd.R_new' ho0 (Kd.R_lt (by (with_reducible repeat (first | apply Kd.R_alloc | apply Kd.R_drewN | apply Kd.R_drew)); exact HO_111002.out))) (g := gb105) (o := .cells #[.int .i64 x106000_2, .int .i64 x106001_2, .slice none 0 0] 62 (0, 0)) (by (with_reducible repeat (first | refine ac_ ?_ _ | refine ae_ ?_ | refine ad_ ?_ _)); exact BK105.out)) (g := gb110) (o := .cells #[.int .i64 ((rd_T66 l0 a1).f0), .int .i64 ((rd_T66 l0 a1).f1), u111002] 62 (0, 0)) (by (with_reducible repeat (first | refine ac_ ?_ _ | refine ae_ ?_ | refine ad_ ?_ _)); exact BK110.out)) (below_size (by repeat (first | (with_reducible first | exact HB.out | apply ai_ | apply ag_ | apply ah_ | refine af_ ?_ GE105.out | refine af_ ?_ GE110.out) | exact HB.out)))); have n2_ := ab_ (blk_below (g := gb105) (o := .cells #[.int .i64 x106000_2, .int .i64 x106001_2, .slice none 0 0] 62 (0, 0)) (by (with_reducible repeat (first | refine ac_ ?_ _ | refine ae_ ?_ | refine ad_ ?_ _)); exact BK105.out) hb); have n3_ := ab_ (blk_below (g := gb110) (o := .cells #[.int .i64 ((rd_T66 l0 a1).f0), .int .i64 ((rd_T66 l0 a1).f1), u111002] 62 (0, 0)) (by (with_reducible repeat (first | refine ac_ ?_ _ | refine ae_ ?_ | refine ad_ ?_ _)); exact BK110.out) hb); have n4_ := ab_ (ao_ (by repeat (first | (with_reducible first | exact HB.out | apply ai_ | apply ag_ | apply ah_ | refine af_ ?_ GE105.out | refine af_ ?_ GE110.out) | exact HB.out)) hb); clear HO_111002; clear BK105; clear BK110; clear HB; have HO_111002 := n0_; have HO116 := n1_; have BK105 := n2_; have BK110 := n3_; have HB := n4_; clear n0_ n1_ n2_ n3_ n4_; (try clear hb); (try clear hb2); (try clear hk); (try clear hi); (try clear ho0)) | ((with_reducible refine gate_dst (N := 8) rfl ?_); refine box_event ?hg (N := 8) ?hd (cs := #[.int .i64 0, .int .i64 0, .slice none 0 0]) (t := 62) ?hr ?_; (case hd => rfl); (case hg => rfl); (case hr => first | (go_simp; done) | (go_simp; rfl)); intro gb118 hg w35 hbox hb; have n0_ := ab_ (Kd.R_below (Kd.R_elderB (by (with_reducible repeat (first | apply Kd.R_alloc | apply Kd.R_drewN | apply Kd.R_drew)); exact HO_111002.out) gb118 (Nat.le_of_eq hg.symm)) hb); have n1_ := ab_ (Kd.R_below (Kd.R_elderB (by (with_reducible repeat (first | apply Kd.R_alloc | apply Kd.R_drewN | apply Kd.R_drew)); exact HO116.out) gb118 (Nat.le_of_eq hg.symm)) hb); have n2_ := ab_ (blk_below (g := gb105) (o := .cells #[.int .i64 x106000_2, .int .i64 x106001_2, .slice none 0 0] 62 (0, 0)) (by (with_reducible repeat (first | refine ac_ ?_ _ | refine ae_ ?_ | refine ad_ ?_ _)); exact BK105.out) hb); have n3_ := ab_ (blk_below (g := gb110) (o := .cells #[.int .i64 ((rd_T66 l0 a1).f0), .int .i64 ((rd_T66 l0 a1).f1), u111002] 62 (0, 0)) (by (with_reducible repeat (first | refine ac_ ?_ _ | refine ae_ ?_ | refine ad_ ?_ _)); exact BK110.out) hb); have n4_ := ab_ (ao_ (by repeat (first | (with_reducible first | exact HB.out | apply ai_ | apply ag_ | apply ah_ | refine af_ ?_ GE105.out | refine af_ ?_ GE110.out) | exact HB.out)) hb); have n5_ := ab_ (hbox); have n6_ := ab_ ((by rw [hg]; exact (below_size (by repeat (first | (with_reducible first | exact HB.out | apply ai_ | apply ag_ | apply ah_ | refine af_ ?_ GE105.out | refine af_ ?_ GE110.out) | exact HB.out))) : w.heap.size ≤ gb118)); have n7_ := ab_ ((by rw [hg]; exact (below_size (by repeat (first | (with_reducible first | exact HB.out | apply ai_ | apply ag_ | apply ah_ | refine af_ ?_ GE105.out | refine af_ ?_ GE110.out) | exact HB.out))) : w.heap.size ≤ gb118)); have n8_ := ab_ ((by rw [hg]; exact ak_ (blk_lt (g := gb105) (o := .cells #[.int .i64 x106000_2, .int .i64 x106001_2, .slice none 0 0] 62 (0, 0)) (by (with_reducible repeat (first | refine ac_ ?_ _ | refine ae_ ?_ | refine ad_ ?_ _)); exact BK105.out)) : gb105 ≠ gb118)); have n9_ := ab_ ((by rw [hg]; exact Nat.ne_of_gt (blk_lt (g := gb105) (o := .cells #[.int .i64 x106000_2, .int .i64 x106001_2, .slice none 0 0] 62 (0, 0)) (by (with_reducible repeat (first | refine ac_ ?_ _ | refine ae_ ?_ | refine ad_ ?_ _)); exact BK105.out)) : gb118 ≠ gb105)); have n10_ := ab_ ((by rw [hg]; exact ak_ (blk_lt (g := gb110) (o := .cells #[.int .i64 ((rd_T66 l0 a1).f0), .int .i64 ((rd_T66 l0 a1).f1), u111002] 62 (0, 0)) (by (with_reducible repeat (first | refine ac_ ?_ _ | refine ae_ ?_ | refine ad_ ?_ _)); exact BK110.out)) : gb110 ≠ gb118)); have n11_ := ab_ ((by rw [hg]; exact Nat.ne_of_gt (blk_lt (g := gb110) (o := .cells #[.int .i64 ((rd_T66 l0 a1).f0), .int .i64 ((rd_T66 l0 a1).f1), u111002] 62 (0, 0)) (by (with_reducible repeat (first | refine ac_ ?_ _ | refine ae_ ?_ | refine ad_ ?_ _)); exact BK110.out)) : gb118 ≠ gb110)); clear HO_111002; clear HO116; clear BK105; clear BK110; clear HB; have HO_111002 := n0_; have HO116 := n1_; have BK105 := n2_; have BK110 := n3_; have HB := n4_; have BK118 := n5_; have GW118 := n6_; have GE118 := n7_; have NB105_118 := n8_; have NB118_105 := n9_; have NB110_118 := n10_; have NB118_110 := n11_; clear n0_ n1_ n2_ n3_ n4_ n5_ n6_ n7_ n8_ n9_ n10_ n11_; clear hb hbox hg; have hnb36 := NB118_105.out; have hnc36 := NB105_118.out; have hnb37 := NB118_110.out; have hnc37 := NB110_118.out; have hcz38_0 : w35.cell? ⟨gb118, 0, none⟩ = some (.int .i64 0) := (am_ BK118.out 0).trans rfl; have hcz38_1 : w35.cell? ⟨gb118, 1, none⟩ = some (.int .i64 0) := (am_ BK118.out 1).trans rfl; have hcz38_2 : w35.cell? ⟨gb118, 2, none⟩ = some (.slice none 0 0) := (am_ BK118.out 2).trans rfl; have hfz38_0 := al_ BK118.out 0; have hfz38_1 := al_ BK118.out 1; have hfz38_2 := al_ BK118.out 2; obtain ⟨Ao39, co39, eo39⟩ := Kd.R_slice HO116.out; subst eo39) | ((with_reducible refine gate_store (t := 62) (p := 8) rfl ?_); refine store_event (t := 62) (p := 8) (v := ?vo_w40) (w1 := (((w35.setCell ⟨gb118, 0, none⟩ (.int .i64 t112)).setCell ⟨gb118, 1, none⟩ (.int .i64 t113)).setCell ⟨gb118, 2, none⟩ (.slice Ao39 t114.length co39))) ?hg ?ho ?hn ?hr ?_; (case ho => rfl); (case hg => rfl); (case hn => rfl); (case hr => first | (go_simp; done) | (go_simp; rfl)); intro w40 hw; have n0_ : Aside0 (Kd.R k62 62 w40 w.heap.size (fun k_ => some k_ ≠ (.slice Ao39 t114.length co39 : Value).ownBlock ∧ k_ ≠ gb105 ∧ k_ ≠ gb110 ∧ k_ ≠ gb118) u111002 x111002_2) := ⟨(by rw [hw]; exact (by (with_reducible repeat (first | apply Kd.R_alloc | apply Kd.R_drewN | apply Kd.R_drew)); exact Kd.R_mono (Kd.R_far (p := ⟨gb118, 2, none⟩) (Kd.R_far (p := ⟨gb118, 1, none⟩) (Kd.R_far (p := ⟨gb118, 0, none⟩) (Kd.R_mono HO_111002.out (fun k_ hk => (⟨hk, hk.2⟩ : _ ∧ k_ ≠ gb118))) (fun _ hk => hk.2) (.int .i64 t112)) (fun _ hk => hk.2) (.int .i64 t113)) (fun _ hk => hk.2) (.slice Ao39 t114.length co39)) (fun _ hk => ⟨hk.1.1.2, ⟨hk.1.1.1.1, ⟨hk.1.1.1.2, hk.1.2⟩⟩⟩)))⟩; have n1_ : Aside0 (Kd.R k62 62 w40 w.heap.size (fun k_ => some k_ ≠ (u111002 : Value).ownBlock ∧ k_ ≠ gb105 ∧ k_ ≠ gb110 ∧ k_ ≠ gb118) (.slice Ao39 t114.length co39) t114) := ⟨(by rw [hw]; exact (by (with_reducible repeat (first | apply Kd.R_alloc | apply Kd.R_drewN | apply Kd.R_drew)); exact Kd.R_mono (Kd.R_far (p := ⟨gb118, 2, none⟩) (Kd.R_far (p := ⟨gb118, 1, none⟩) (Kd.R_far (p := ⟨gb118, 0, none⟩) (Kd.R_mono HO116.out (fun k_ hk => (⟨hk, hk.2⟩ : _ ∧ k_ ≠ gb118))) (fun _ hk => hk.2) (.int .i64 t112)) (fun _ hk => hk.2) (.int .i64 t113)) (fun _ hk => hk.2) (.slice Ao39 t114.length co39)) (fun _ hk => ⟨hk.1.1.1.1.2, ⟨hk.1.1.1.2, ⟨hk.1.1.2, hk.1.2⟩⟩⟩)))⟩; have n2_ : Aside0 (w40.heap[gb105]? = some (.cells #[.int .i64 x106000_2, .int .i64 x106001_2, .slice none 0 0] 62 (0, 0))) := ⟨(by rw [hw]; exact (by (with_reducible repeat (first | refine ac_ ?_ _ | refine ae_ ?_ | refine ad_ ?_ _)); refine blk_far ?_ NB105_118.out _; (with_reducible repeat (first | refine ac_ ?_ _ | refine ae_ ?_ | refine ad_ ?_ _)); refine blk_far ?_ NB105_118.out _; (with_reducible repeat (first | refine ac_ ?_ _ | refine ae_ ?_ | refine ad_ ?_ _)); refine blk_far ?_ NB105_118.out _; (with_reducible repeat (first | refine ac_ ?_ _ | refine ae_ ?_ | refine ad_ ?_ _)); exact BK105.out))⟩; have n3_ : Aside0 (w40.heap[gb110]? = some (.cells #[.int .i64 ((rd_T66 l0 a1).f0), .int .i64 ((rd_T66 l0 a1).f1), u111002] 62 (0, 0))) := ⟨(by rw [hw]; exact (by (with_reducible repeat (first | refine ac_ ?_ _ | refine ae_ ?_ | refine ad_ ?_ _)); refine blk_far ?_ NB110_118.out _; (with_reducible repeat (first | refine ac_ ?_ _ | refine ae_ ?_ | refine ad_ ?_ _)); refine blk_far ?_ NB110_118.out _; (with_reducible repeat (first | refine ac_ ?_ _ | refine ae_ ?_ | refine ad_ ?_ _)); refine blk_far ?_ NB110_118.out _; (with_reducible repeat (first | refine ac_ ?_ _ | refine ae_ ?_ | refine ad_ ?_ _)); exact BK110.out))⟩; have n4_ : Aside0 (w40.heap[gb118]? = some (.cells #[.int .i64 t112, .int .i64 t113, .slice Ao39 t114.length co39] 62 (0, 0))) := ⟨(by rw [hw]; exact (by (with_reducible repeat (first | refine ac_ ?_ _ | refine ae_ ?_ | refine ad_ ?_ _)); refine blk_put (cs := #[.int .i64 t112, .int .i64 t113, .slice none 0 0]) ?_ 2 _ rfl; (with_reducible repeat (first | refine ac_ ?_ _ | refine ae_ ?_ | refine ad_ ?_ _)); refine blk_put (cs := #[.int .i64 t112, .int .i64 0, .slice none 0 0]) ?_ 1 _ rfl; (with_reducible repeat (first | refine ac_ ?_ _ | refine ae_ ?_ | refine ad_ ?_ _)); refine blk_put (cs := #[.int .i64 0, .int .i64 0, .slice none 0 0]) ?_ 0 _ rfl; (with_reducible repeat (first | refine ac_ ?_ _ | refine ae_ ?_ | refine ad_ ?_ _)); exact BK118.out))⟩; have n5_ : Aside0 (Below w.heap.size w w40) := ⟨(by rw [hw]; exact (by repeat (first | (with_reducible first | exact HB.out | apply ai_ | apply ag_ | apply ah_ | refine af_ ?_ GE105.out | refine af_ ?_ GE110.out | refine af_ ?_ GE118.out) | exact HB.out)))⟩; clear hw; clear HO_111002; clear HO116; clear BK105; clear BK110; clear BK118; clear HB; have HO_111002 := n0_; have HO116 := n1_; have BK105 := n2_; have BK110 := n3_; have BK118 := n4_; have HB := n5_; clear n0_ n1_ n2_ n3_ n4_ n5_; have hnb41 := NB110_105.out; have hnc41 := NB105_110.out; have hcz42_0 : w40.cell? ⟨gb110, 0, none⟩ = some (.int .i64 ((rd_T66 l0 a1).f0)) := (am_ BK110.out 0).trans rfl; have hcz42_1 : w40.cell? ⟨gb110, 1, none⟩ = some (.int .i64 ((rd_T66 l0 a1).f1)) := (am_ BK110.out 1).trans rfl; have hcz42_2 : w40.cell? ⟨gb110, 2, none⟩ = some (u111002) := (am_ BK110.out 2).trans rfl; have hfz42_0 := al_ BK110.out 0; have hfz42_1 := al_ BK110.out 1; have hfz42_2 := al_ BK110.out 2; have hcz43_0 : w40.cell? ⟨gb118, 0, none⟩ = some (.int .i64 t112) := (am_ BK118.out 0).trans rfl; have hcz43_1 : w40.cell? ⟨gb118, 1, none⟩ = some (.int .i64 t113) := (am_ BK118.out 1).trans rfl; have hcz43_2 : w40.cell? ⟨gb118, 2, none⟩ = some (.slice Ao39 t114.length co39) := (am_ BK118.out 2).trans rfl; have hfz43_0 := al_ BK118.out 0; have hfz43_1 := al_ BK118.out 1; have hfz43_2 := al_ BK118.out 2) | ((with_reducible refine gate_builtin (b := .append) (xs := #[.tmp 53, .tmp 55]) rfl ?_); at_builtin; refine Kd.R_append k62 (w0 := w) w.heap.size rfl (.tmp 53) (.tmp 55) 60 62 (.agg #[(.int .i64 0), (.int .i64 0), (.slice none 0 0)]) 40 rfl Try.underlying60 info62 rfl (by decide) (by omega) u111002 x111002_2 (⟨t112, t113, t114⟩ : S62) [.int .i64 t112, .int .i64 t113, .slice Ao39 t114.length co39] (fun k_ => k_ ≠ gb105 ∧ k_ ≠ gb110 ∧ k_ ≠ gb118) (fun k_ => ((fun k_ => k_ ≠ gb105 ∧ k_ ≠ gb110 ∧ k_ ≠ gb118)) k_ ∧ some k_ ≠ (u111002 : Value).ownBlock) rfl rfl ?aP (fun _ hk => hk) ?aF ?aO ?aB ?aS ?aL ?_; (case aP => exact k62_mkM _ _ _ (⟨t112, t113, t114⟩ : S62) (Kd.R_mono (HO116.out) (fun k_ hk => ⟨⟨hk.2.1, ⟨hk.2.2.1, hk.2.2.2⟩⟩, hk.1⟩))); (case aB => exact (by repeat (first | (with_reducible first | exact HB.out | apply ai_ | apply ag_ | apply ah_ | refine af_ ?_ GE105.out | refine af_ ?_ GE110.out | refine af_ ?_ GE118.out) | exact HB.out))); (case aF => exact (fun k_ hk => ⟨Kd.freshB (g := gb105) (o := .cells #[.int .i64 x106000_2, .int .i64 x106001_2, .slice none 0 0] 62 (0, 0)) (by (with_reducible repeat (first | refine ac_ ?_ _ | refine ae_ ?_ | refine ad_ ?_ _)); exact BK105.out) k_ hk, Kd.freshB (g := gb110) (o := .cells #[.int .i64 ((rd_T66 l0 a1).f0), .int .i64 ((rd_T66 l0 a1).f1), u111002] 62 (0, 0)) (by (with_reducible repeat (first | refine ac_ ?_ _ | refine ae_ ?_ | refine ad_ ?_ _)); exact BK110.out) k_ hk, Kd.freshB (g := gb118) (o := .cells #[.int .i64 t112, .int .i64 t113, .slice Ao39 t114.length co39] 62 (0, 0)) (by (with_reducible repeat (first | refine ac_ ?_ _ | refine ae_ ?_ | refine ad_ ?_ _)); exact BK118.out) k_ hk⟩)); (case aO => exact (by (with_reducible repeat (first | apply Kd.R_alloc | apply Kd.R_drewN | apply Kd.R_drew)); exact Kd.R_mono HO_111002.out (fun _ hk => ⟨hk.2.1, ⟨hk.2.2.1, hk.2.2.2⟩⟩))); (case aS => exact (below_size (by repeat (first | (with_reducible first | exact HB.out | apply ai_ | apply ag_ | apply ah_ | refine af_ ?_ GE105.out | refine af_ ?_ GE110.out | refine af_ ?_ GE118.out) | exact HB.out)))); (case aL => have := LMc33.out; omega); intro v120 w44 ho hb hg hat; rw [← Ny119.out] at ho; have n0_ := ab_ (blk_grown (g := gb105) (o := .cells #[.int .i64 x106000_2, .int .i64 x106001_2, .slice none 0 0] 62 (0, 0)) (by (with_reducible repeat (first | refine ac_ ?_ _ | refine ae_ ?_ | refine ad_ ?_ _)); exact BK105.out) hg (Kd.R_away HO_111002.out (fun _ hk => hk.2.1))); have n1_ := ab_ (blk_grown (g := gb110) (o := .cells #[.int .i64 ((rd_T66 l0 a1).f0), .int .i64 ((rd_T66 l0 a1).f1), u111002] 62 (0, 0)) (by (with_reducible repeat (first | refine ac_ ?_ _ | refine ae_ ?_ | refine ad_ ?_ _)); exact BK110.out) hg (Kd.R_away HO_111002.out (fun _ hk => hk.2.2.1))); have n2_ := ab_ (blk_grown (g := gb118) (o := .cells #[.int .i64 t112, .int .i64 t113, .slice Ao39 t114.length co39] 62 (0, 0)) (by (with_reducible repeat (first | refine ac_ ?_ _ | refine ae_ ?_ | refine ad_ ?_ _)); exact BK118.out) hg (Kd.R_away HO_111002.out (fun _ hk => hk.2.2.2))); have n3_ := ab_ (hb); have n4_ := ab_ (ho); clear BK105; clear BK110; clear BK118; clear HB; clear HO_111002; clear HO116; have BK105 := n0_; have BK110 := n1_; have BK118 := n2_; have HB := n3_; have HO121 := n4_; clear n0_ n1_ n2_ n3_ n4_; clear ho hb hg hat; obtain ⟨Ao45, co45, eo45⟩ := Kd.R_slice HO121.out; subst eo45; have hcz46_0 : w44.cell? ⟨gb110, 0, none⟩ = some (.int .i64 ((rd_T66 l0 a1).f0)) := (am_ BK110.out 0).trans rfl; have hcz46_1 : w44.cell? ⟨gb110, 1, none⟩ = some (.int .i64 ((rd_T66 l0 a1).f1)) := (am_ BK110.out 1).trans rfl; have hcz46_2 : w44.cell? ⟨gb110, 2, none⟩ = some (u111002) := (am_ BK110.out 2).trans rfl; have hfz46_0 := al_ BK110.out 0; have hfz46_1 := al_ BK110.out 1; have hfz46_2 := al_ BK110.out 2))
                      go_roundg k2
                      case measure => have := HJ2.out; have := HK2.out; omega
                      case rel => exact ⟨(t117), (wrap64 (x7_2 - 1)), (x106000_2), (x106001_2), (y119), (.slice Ao45 y119.length co45), (by first | rfl | (simp; done) | (simp [*]; done)), (by first | rfl | (simp; done) | (simp [*]; done)), H', ⟨by have := HJ2.out; have := HK2.out; omega⟩, ⟨by (with_reducible repeat (first | apply Kd.R_alloc | apply Kd.R_drewN | apply Kd.R_drew)); exact Kd.R_mono (Kd.R_far (p := ⟨gb110, 2, none⟩) (Kd.R_mono HO121.out (fun k_ hk => (⟨hk, hk.2.1⟩ : _ ∧ k_ ≠ gb110))) (fun _ hk => hk.2) (.slice Ao45 y119.length co45)) (fun _ hk => ⟨hk.1.1, hk.1.2.1⟩)⟩, ⟨by (with_reducible repeat (first | refine ac_ ?_ _ | refine ae_ ?_ | refine ad_ ?_ _)); refine blk_far ?_ NB105_110.out _; (with_reducible repeat (first | refine ac_ ?_ _ | refine ae_ ?_ | refine ad_ ?_ _)); exact BK105.out⟩, ⟨by (with_reducible repeat (first | refine ac_ ?_ _ | refine ae_ ?_ | refine ad_ ?_ _)); refine blk_put (cs := #[.int .i64 ((rd_T66 l0 a1).f0), .int .i64 ((rd_T66 l0 a1).f1), u111002]) ?_ 2 _ rfl; (with_reducible repeat (first | refine ac_ ?_ _ | refine ae_ ?_ | refine ad_ ?_ _)); exact BK110.out⟩, ⟨by repeat (first | (with_reducible first | exact HB.out | apply ai_ | apply ag_ | apply ah_ | refine af_ ?_ GE105.out | refine af_ ?_ GE110.out | refine af_ ?_ GE118.out) | exact HB.out)⟩⟩
                    · rw [if_neg c33] at H
                      exact absurd H (by simp)
                · rw [if_neg c22] at H
                  have c22b0 : decide (0 < x7_2) = false := decide_eq_false c22
                  clear c22
                  simp only [Option.some.injEq, Prod.mk.injEq] at H
                  obtain ⟨rfl, rfl, rfl, rfl⟩ := H
                  have hnb47 := NB110_105.out
                  have hnc47 := NB105_110.out
                  have hcz48_0 : wr.cell? ⟨gb110, 0, none⟩ = some (.int .i64 ((rd_T66 l0 a1).f0)) := (am_ BK110.out 0).trans rfl
                  have hcz48_1 : wr.cell? ⟨gb110, 1, none⟩ = some (.int .i64 ((rd_T66 l0 a1).f1)) := (am_ BK110.out 1).trans rfl
                  have hcz48_2 : wr.cell? ⟨gb110, 2, none⟩ = some (u111002) := (am_ BK110.out 2).trans rfl
                  have hfz48_0 := al_ BK110.out 0
                  have hfz48_1 := al_ BK110.out 1
                  have hfz48_2 := al_ BK110.out 2
                  have hcz49_0 : wr.cell? ⟨gb105, 0, none⟩ = some (.int .i64 x106000_2) := (am_ BK105.out 0).trans rfl
                  have hcz49_1 : wr.cell? ⟨gb105, 1, none⟩ = some (.int .i64 x106001_2) := (am_ BK105.out 1).trans rfl
                  have hcz49_2 : wr.cell? ⟨gb105, 2, none⟩ = some (.slice none 0 0) := (am_ BK105.out 2).trans rfl
                  have hfz49_0 := al_ BK105.out 0
                  have hfz49_1 := al_ BK105.out 1
                  have hfz49_2 := al_ BK105.out 2
                  obtain ⟨Ao50, co50, eo50⟩ := Kd.R_slice HO_111002.out
                  subst eo50
                  go_wp2
                  refine bodyPost_ret (results_ct rfl _ _ gb105 62 #[.int .i64 ((rd_T66 l0 a1).f0), .int .i64 ((rd_T66 l0 a1).f1), .slice Ao50 x111002_2.length co50] (0, 0) _ rfl (by (with_reducible repeat (first | refine ac_ ?_ _ | refine ae_ ?_ | refine ad_ ?_ _)); refine blk_put (cs := #[.int .i64 ((rd_T66 l0 a1).f0), .int .i64 ((rd_T66 l0 a1).f1), .slice none 0 0]) ?_ 2 _ rfl; (with_reducible repeat (first | refine ac_ ?_ _ | refine ae_ ?_ | refine ad_ ?_ _)); refine blk_put (cs := #[.int .i64 ((rd_T66 l0 a1).f0), .int .i64 x106001_2, .slice none 0 0]) ?_ 1 _ rfl; (with_reducible repeat (first | refine ac_ ?_ _ | refine ae_ ?_ | refine ad_ ?_ _)); refine blk_put (cs := #[.int .i64 x106000_2, .int .i64 x106001_2, .slice none 0 0]) ?_ 0 _ rfl; (with_reducible repeat (first | refine ac_ ?_ _ | refine ae_ ?_ | refine ad_ ?_ _)); exact BK105.out) Try.underlying62 rfl (by kernel_rfl)) rfl ?_
                  exact ⟨_, by first | rfl | (simp [errW_none, errW_some] <;> rfl) | (simp [*, errW_none, errW_some] <;> rfl), by (with_reducible repeat (first | apply Kd.R_alloc | apply Kd.R_drewN | apply Kd.R_drew)); exact Kd.R_mono (Kd.R_far (p := ⟨gb105, 2, none⟩) (Kd.R_far (p := ⟨gb105, 1, none⟩) (Kd.R_far (p := ⟨gb105, 0, none⟩) (Kd.R_mono HO_111002.out (fun k_ hk => (⟨hk, hk.1⟩ : _ ∧ k_ ≠ gb105))) (fun _ hk => hk.2) (.int .i64 ((rd_T66 l0 a1).f0))) (fun _ hk => hk.2) (.int .i64 ((rd_T66 l0 a1).f1))) (fun _ hk => hk.2) (.slice Ao50 x111002_2.length co50)) (fun _ hk => trivial), by repeat (first | (with_reducible first | exact HB.out | apply ai_ | apply ag_ | apply ah_ | refine af_ ?_ GE105.out | refine af_ ?_ GE110.out) | exact HB.out)⟩
          · rw [if_neg c13] at H
            exact absurd H (by simp)
        · rw [if_neg c12] at H
          exact absurd H (by simp)
end Go.Proofs.Ytgoiifpimpnlpaa.PAll

end
