/- The reference's l3Size counts the nodes; SizeAt answers as sizeAtOf. -/
import Derived.Test.YtgoiifpimpnlpaaQhanded
import Derived.Test.YtgoiifpimpnlpaaStFnExactSizeAt
namespace Go.Proofs.Ytgoiifpimpnlpaa.PAll
open Go.RowKit Go.Proofs.YtgoiifpimpnlpaaW.PrintWords Go.Proofs.YtgoiifpimpnlpaaW.PrintLast Go.Proofs.YtgoiifpimpnlpaaW.PrintMore
set_option linter.unusedVariables false
set_option linter.unusedSimpArgs false

theorem size_mk (k n : Int) (ks : List Tm) : (Tm.mk k n ks).size = cap (1 + sizes ks) := by simp [Tm.size]
theorem sizes_nodes (ks : List Tm) (ih : ∀ t ∈ ks, t.nodes ≤ 1000000 → t.size = (t.nodes : Int)) (h : nodesAll ks ≤ 1000000) : sizes ks = (nodesAll ks : Int) := by
  induction ks with
  | nil => simp [sizes, nodesAll]
  | cons t ts ihl =>
    simp only [nodesAll] at h
    have a := ih t (by simp) (by omega)
    have b := ihl (fun u hu => ih u (by simp [hu])) (by omega)
    simp only [sizes, nodesAll, a, b]
    omega
theorem size_nodes (t : Tm) : t.nodes ≤ 1000000 → t.size = (t.nodes : Int) := by
  induction t using Tm.ind with
  | h k n ks ih =>
    intro h
    rw [nodes_mk] at h
    rw [size_mk, nodes_mk, sizes_nodes ks ih (by omega), cap]
    split <;> omega

theorem nodesAll_drop (ks : List Tm) (i : Nat) (t : Tm) (h : ks[i]? = some t) : nodesAll (ks.drop i) = t.nodes + nodesAll (ks.drop (i + 1)) := by
  have hlt : i < ks.length := by
    rcases Nat.lt_or_ge i ks.length with h' | h'
    · exact h'
    · rw [List.getElem?_eq_none h'] at h; cases h
  rw [List.drop_eq_getElem_cons hlt]
  have : ks[i] = t := by rw [List.getElem?_eq_getElem hlt] at h; exact Option.some.inj h
  rw [this]
  simp [nodesAll]

theorem sizeLoop_eq (ks : List Tm) (hks : ks.length ≤ 3) (hn6 : nodesAll ks ≤ 1000000) (ih : ∀ t ∈ ks, t.wf → t.nodes ≤ 1000000 → ∀ k, 10 * t.nodes ≤ k → spec_l3Size.f k (tv t).f0 (tv t).f1 (tv t).f2 = some (t.nodes : Int)) (hws : wfs ks) :
    ∀ (d i : Nat) (b : Nat) (k : Nat), i + d = ks.length → b ≤ 1000001 → d + 10 * nodesAll ks + 1 ≤ k → b + nodesAll (ks.drop i) ≤ 1000001 → spec_l3Size.l0 k (b : Int) (tvs ks) (ks.length : Int) (i : Int) = some ((b + nodesAll (ks.drop i) : Nat) : Int) := by
  intro d
  induction d with
  | zero =>
    intro i b k hi hb hk hbn
    obtain ⟨k, rfl⟩ : ∃ m, k = m + 1 := ⟨k - 1, by omega⟩
    simp only [spec_l3Size.l0]
    rw [if_neg (by omega), List.drop_eq_nil_of_le (by omega)]
    simp [nodesAll]
  | succ d ihd =>
    intro i b k hi hb hk hbn
    obtain ⟨k, rfl⟩ : ∃ m, k = m + 1 := ⟨k - 1, by omega⟩
    have hlt : i < ks.length := by omega
    have hg : ks[i]? = some ks[i] := by simp [hlt]
    have hmem : ks[i] ∈ ks := List.getElem_mem hlt
    have hn := nodes_mem hmem
    have hd := nodesAll_drop ks i _ hg
    rw [hd] at hbn
    simp only [spec_l3Size.l0]
    rw [if_pos (by omega), if_pos (by omega), tvs_length, if_pos (by omega), rd62_get ks i _ hg, ih _ hmem (wfs_get hws _ hmem) (by omega) k (by omega), wrap_id (x := (i : Int) + 1) (by omega) (by omega), hd, Option.bind_some, wrap_id (by omega) (by omega)]
    have e : (i : Int) + 1 = ((i + 1 : Nat) : Int) := by omega
    have e2 : (b : Int) + (ks[i].nodes : Int) = ((b + ks[i].nodes : Nat) : Int) := by omega
    rw [e, e2, ihd (i + 1) _ k (by omega) (by omega) (by omega) (by omega)]
    congr 1
    omega

theorem l3Size_eq (t : Tm) : t.wf → t.nodes ≤ 1000000 → ∀ k, 10 * t.nodes ≤ k → spec_l3Size.f k (tv t).f0 (tv t).f1 (tv t).f2 = some (t.nodes : Int) := by
  induction t using Tm.ind with
  | h k n ks ih =>
    intro hwf h6 q hq
    simp only [Tm.wf] at hwf
    have hkl : ks.length ≤ 3 := by have := arI_bd k; omega
    rw [nodes_mk] at hq h6
    obtain ⟨q, rfl⟩ : ∃ m, q = m + 1 := ⟨q - 1, by omega⟩
    rw [tv_f, nodes_mk]
    simp only [spec_l3Size.f]
    have L := sizeLoop_eq ks hkl (by omega) ih hwf.2 ks.length 0 1 q (by omega) (by omega) (by omega) (by simp; omega)
    rw [tvs_length]
    simpa using L

theorem SizeAt_eq (l : List S66) (a : Int) (k : Nat) (hk : 7000 ≤ k) : spec_SizeAt.f k l a = some (sizeAtOf l a) := by
  obtain ⟨k, rfl⟩ : ∃ m, k = m + 1 := ⟨k - 1, by omega⟩
  unfold spec_SizeAt.f sizeAtOf
  rw [GoodTerm_eq l _ (by omega), Option.bind_some]
  cases hq : tmof l with
  | none => simp [spec_SizeAt.j0]
  | some t =>
    simp only [Option.isSome_some, if_true]
    by_cases h0 : a < 0
    · rw [if_pos h0, if_neg (by omega)]
      simp [spec_SizeAt.j0]
    · rw [if_neg h0]
      by_cases h1 : a ≤ (l.length : Int) - 1
      · obtain ⟨i, rfl⟩ : ∃ i : Nat, a = (i : Int) := ⟨a.toNat, by omega⟩
        obtain ⟨h6, u, r, hp⟩ := tmof_at hq i (by omega)
        rw [if_pos ⟨by omega, h1⟩, decide_eq_false (by omega)]
        have R := l3Read_eq l (by omega) 601 i (l.drop i) rfl (by omega) (by simp; omega) k (by omega)
        rw [hp] at R
        obtain ⟨R, _⟩ := R
        have hn := mparse_nodes _ _ _ _ hp
        simp only [List.length_drop] at hn
        simp only [spec_SizeAt.j0, Int.toNat_natCast, hp]
        rw [if_neg (by simp), R, Option.bind_some, l3Size_eq u (mparse_wf _ _ _ _ hp) (by omega) k (by omega), Option.bind_some, size_nodes u (by omega)]
      · rw [if_neg (by omega), decide_eq_true (by omega)]
        simp [spec_SizeAt.j0]
end Go.Proofs.Ytgoiifpimpnlpaa.PAll
