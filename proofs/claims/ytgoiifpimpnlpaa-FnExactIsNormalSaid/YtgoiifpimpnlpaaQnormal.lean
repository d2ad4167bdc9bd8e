/- The reference's l4Is, l4Any and IsNormal answer as redexB, normalB and normalOf. -/
import Derived.Test.YtgoiifpimpnlpaaQhanded
import Derived.Test.YtgoiifpimpnlpaaStFnExactIsNormal
namespace Go.Proofs.Ytgoiifpimpnlpaa.PAll
open Go.RowKit Go.Proofs.YtgoiifpimpnlpaaW.PrintWords Go.Proofs.YtgoiifpimpnlpaaW.PrintLast Go.Proofs.YtgoiifpimpnlpaaW.PrintMore
set_option linter.unusedVariables false
set_option linter.unusedSimpArgs false

theorem tv_f0 (t : Tm) : (tv t).f0 = t.kd := by cases t; rw [tv_f]; rfl
theorem tv_f1 (t : Tm) : (tv t).f1 = t.nu := by cases t; rw [tv_f]; rfl

theorem redex_eq (k n : Int) (ks : List Tm) (hwf : (Tm.mk k n ks).wf) (hwn : (Tm.mk k n ks).wn) : spec_l4Is.f k n (tvs ks) = some (redexB k ks) := by
  simp only [Tm.wf] at hwf
  simp only [Tm.wn] at hwn
  obtain ⟨hk, hws⟩ := hwf
  have hwns := hwn.2
  unfold spec_l4Is.f redexB
  by_cases h4 : k = 4
  · have hk2 : ks.length = 2 := by rw [h4] at hk; simp [arI] at hk; omega
    have hg : ks[0]? = some ks[0] := by simp [hk2]
    have e := rd62_get ks 0 _ hg
    simp only [Int.cast_ofNat_Int] at e
    rw [if_pos h4, tvs_length, if_pos (by omega), e, tv_f0, if_neg (show ¬ k = 7 by omega), if_pos h4, hg]
    rfl
  · rw [if_neg h4]
    by_cases h7 : k = 7
    · rw [if_pos h7, if_pos h7]
    · rw [if_neg h7, if_neg h7, if_neg h4]
      by_cases h5 : k = 5
      · have hk2 : ks.length = 2 := by rw [h5] at hk; simp [arI] at hk; omega
        match ks, hk2 with
        | [a, b], _ =>
          have ea := rd62_get [a, b] 0 a rfl
          have eb := rd62_get [a, b] 1 b rfl
          simp only [Int.cast_ofNat_Int] at ea eb
          have L : (tvs [a, b]).length = 2 := by rw [tvs_length]; rfl
          rw [if_pos h5, if_neg (show ¬ k = 6 by omega), if_pos h5, ea, eb, L, if_pos (by omega), tv_f0, tv_f0, tv_f1, tv_f1]
          have wa := Tm.wn_nu (wns_get hwns a (by simp))
          have wb := Tm.wn_nu (wns_get hwns b (by simp))
          by_cases ka : a.kd = 2
          · rw [if_pos ka, if_pos (by omega)]
            by_cases kb : b.kd = 2
            · have wa := wa ka
              have wb := wb kb
              rw [if_pos kb, wrap_id (by omega) (by omega), l1In_eq]
              simp [addB, ka, kb]
            · rw [if_neg kb]; simp [addB, kb]
          · rw [if_neg ka]; simp [addB, ka]
      · rw [if_neg h5]
        by_cases h6 : k = 6
        · have hk2 : ks.length = 3 := by rw [h6] at hk; simp [arI] at hk; omega
          have hg : ks[0]? = some ks[0] := by simp [hk2]
          have e := rd62_get ks 0 _ hg
          simp only [Int.cast_ofNat_Int] at e
          rw [if_pos h6, tvs_length, if_pos (by omega), e, tv_f0, if_pos h6, hg]
          rfl
        · rw [if_neg h6, if_neg h6, if_neg h5]

theorem anyLoop_eq (ks : List Tm) (hks : ks.length ≤ 3) (hws : wfs ks) (hwn : wns ks) (ih : ∀ t ∈ ks, t.wf → t.wn → ∀ k, 10 * t.nodes ≤ k → spec_l4Any.f k (tv t).f0 (tv t).f1 (tv t).f2 = some (!normalB t)) :
    ∀ (d i : Nat) (k : Nat), i + d = ks.length → d + 10 * nodesAll ks + 1 ≤ k → spec_l4Any.l0 k (tvs ks) (ks.length : Int) (i : Int) = some ((ks.drop i).any (fun t => !normalB t)) := by
  intro d
  induction d with
  | zero =>
    intro i k hi hk
    obtain ⟨k, rfl⟩ : ∃ m, k = m + 1 := ⟨k - 1, by omega⟩
    simp only [spec_l4Any.l0]
    rw [if_neg (by omega), List.drop_eq_nil_of_le (by omega)]
    rfl
  | succ d ihd =>
    intro i k hi hk
    obtain ⟨k, rfl⟩ : ∃ m, k = m + 1 := ⟨k - 1, by omega⟩
    have hlt : i < ks.length := by omega
    have hg : ks[i]? = some ks[i] := by simp [hlt]
    have hmem : ks[i] ∈ ks := List.getElem_mem hlt
    have hn := nodes_mem hmem
    have hd : ks.drop i = ks[i] :: ks.drop (i + 1) := by rw [List.drop_eq_getElem_cons hlt]
    simp only [spec_l4Any.l0]
    rw [if_pos (by omega), if_pos (by omega), tvs_length, if_pos (by omega), rd62_get ks i _ hg, ih _ hmem (wfs_get hws _ hmem) (wns_get hwn _ hmem) k (by omega), wrap_id (by omega) (by omega), hd]
    have e : (i : Int) + 1 = ((i + 1 : Nat) : Int) := by omega
    rw [e, Option.bind_some, ihd (i + 1) k (by omega) (by omega), List.any_cons]
    cases normalB ks[i] <;> simp

theorem any_eq (t : Tm) : t.wf → t.wn → ∀ k, 10 * t.nodes ≤ k → spec_l4Any.f k (tv t).f0 (tv t).f1 (tv t).f2 = some (!normalB t) := by
  induction t using Tm.ind with
  | h k n ks ih =>
    intro hwf hwn q hq
    have HR := redex_eq k n ks hwf hwn
    simp only [Tm.wf] at hwf
    simp only [Tm.wn] at hwn
    have hkl : ks.length ≤ 3 := by have := arI_bd k; omega
    rw [nodes_mk] at hq
    obtain ⟨q, rfl⟩ : ∃ m, q = m + 1 := ⟨q - 1, by omega⟩
    rw [tv_f, normalB_mk]
    simp only [spec_l4Any.f]
    have L := anyLoop_eq ks hkl hwf.2 hwn.2 ih ks.length 0 q (by omega) (by omega)
    simp only [Int.cast_ofNat_Int, List.drop_zero] at L
    rw [HR, tvs_length, Option.bind_some]
    cases hr : redexB k ks with
    | true => simp
    | false => rw [if_neg (by simp)]; simp only [L]; simp

theorem IsNormal_eq (l : List S66) (k : Nat) (hk : 6000 ≤ k) : spec_IsNormal.f k l = some (normalOf l) := by
  have h := l3Tree_eq l k (by omega)
  unfold spec_IsNormal.f normalOf
  cases hq : tmof l with
  | none => rw [hq] at h; obtain ⟨b, n, ks, h⟩ := h; rw [h]; rfl
  | some t =>
    rw [hq] at h
    simp only at h
    rw [h, Option.bind_some, if_pos rfl, any_eq t (tmof_wf hq) (tmof_wn hq) k (by have := tmof_nodes hq; omega)]
    simp
end Go.Proofs.Ytgoiifpimpnlpaa.PAll
