/- The reference's l7Simple, l7Is and IsHanded answer as plainB, handedB and handedOf. -/
import Derived.Test.YtgoiifpimpnlpaaQtermB
import Derived.Test.YtgoiifpimpnlpaaStFnExactIsHanded
namespace Go.Proofs.Ytgoiifpimpnlpaa.PAll
open Go.RowKit Go.Proofs.YtgoiifpimpnlpaaW.PrintWords Go.Proofs.YtgoiifpimpnlpaaW.PrintLast Go.Proofs.YtgoiifpimpnlpaaW.PrintMore
set_option linter.unusedVariables false
set_option linter.unusedSimpArgs false

theorem rd62_get (ts : List Tm) (i : Nat) (t : Tm) (h : ts[i]? = some t) : rd_T62 (tvs ts) (i : Int) = tv t := by
  simp [rd_T62, tvs_map, List.getD_eq_getElem?_getD, h]
theorem tvs_length (ts : List Tm) : (tvs ts).length = ts.length := by simp [tvs_map]

theorem tv_f (k n : Int) (ks : List Tm) : tv (.mk k n ks) = ⟨k, n, tvs ks⟩ := by simp [tv]
theorem plainB_mk (k n : Int) (ks : List Tm) : plainB (.mk k n ks) = ((decide (k = 1) || decide (k = 2) || decide (k = 3)) || (decide (k = 5) && plainAll ks)) := by simp [plainB]
theorem handedB_mk (k n : Int) (ks : List Tm) : handedB (.mk k n ks) = (okB k (.mk k n ks) ks && handedAll ks) := by simp [handedB]
mutual
def Tm.nodes : Tm → Nat
  | .mk _ _ ks => 1 + nodesAll ks
def nodesAll : List Tm → Nat
  | [] => 0
  | t :: ts => t.nodes + nodesAll ts
end
theorem nodes_mk (k n : Int) (ks : List Tm) : (Tm.mk k n ks).nodes = 1 + nodesAll ks := by simp [Tm.nodes]
theorem nodes_pos (t : Tm) : 1 ≤ t.nodes := by cases t; rw [nodes_mk]; omega
theorem nodes_mem {t : Tm} {ts : List Tm} (h : t ∈ ts) : t.nodes ≤ nodesAll ts := by
  induction ts with
  | nil => cases h
  | cons a ts ih =>
    simp only [nodesAll]
    rcases List.mem_cons.1 h with rfl | h
    · omega
    · have := ih h; omega
theorem mkids_nodes {f : List S66 → Option (Tm × List S66)} (hf : ∀ l t r, f l = some (t, r) → t.nodes + r.length = l.length) : ∀ m l ts r, mkids f m l = some (ts, r) → nodesAll ts + r.length = l.length := by
  intro m
  induction m with
  | zero => intro l ts r h; simp [mkids] at h; obtain ⟨rfl, rfl⟩ := h; simp [nodesAll]
  | succ m ih =>
    intro l ts r h
    simp only [mkids] at h
    cases h1 : f l with
    | none => rw [h1] at h; simp at h
    | some p =>
      obtain ⟨t, r1⟩ := p
      rw [h1] at h
      simp only at h
      cases h2 : mkids f m r1 with
      | none => rw [h2] at h; simp at h
      | some q =>
        obtain ⟨ts', r2⟩ := q
        rw [h2] at h
        simp at h
        obtain ⟨rfl, rfl⟩ := h
        have := hf _ _ _ h1
        have := ih _ _ _ h2
        simp only [nodesAll]
        omega
theorem mparse_nodes : ∀ (k : Nat) (l : List S66) (t : Tm) (r : List S66), mparse k l = some (t, r) → t.nodes + r.length = l.length := by
  intro k
  induction k with
  | zero => intro l t r h; simp [mparse] at h
  | succ k ih =>
    intro l t r h
    cases l with
    | nil => simp [mparse] at h
    | cons x l =>
      simp only [mparse] at h
      split at h
      · cases h1 : mkids (mparse k) (arI x.f0).toNat l with
        | none => rw [h1] at h; simp at h
        | some p =>
          obtain ⟨ts, r1⟩ := p
          rw [h1] at h
          simp at h
          obtain ⟨rfl, rfl⟩ := h
          have := mkids_nodes ih _ _ _ _ h1
          rw [nodes_mk, List.length_cons]
          omega
      · simp at h
theorem tmof_nodes {l : List S66} {t : Tm} (h : tmof l = some t) : t.nodes ≤ 600 := by
  unfold tmof at h
  split at h
  · split at h
    · rename_i h0 _ _ h1; injection h with h; subst h; have := mparse_nodes _ _ _ _ h1; simp at this; omega
    · cases h
  · cases h

theorem simple_eq (t : Tm) : t.wf → ∀ k, t.nodes ≤ k → spec_l7Simple.f k (tv t).f0 (tv t).f1 (tv t).f2 = some (plainB t) := by
  induction t using Tm.ind with
  | h k n ks ih =>
    intro hwf q hq
    simp only [Tm.wf] at hwf
    obtain ⟨hk, hws⟩ := hwf
    rw [nodes_mk] at hq
    obtain ⟨q, rfl⟩ : ∃ m, q = m + 1 := ⟨q - 1, by omega⟩
    rw [tv_f, plainB_mk]
    simp only [spec_l7Simple.f]
    by_cases h5 : k = 5
    · subst h5
      have hk2 : ks.length = 2 := by simp [arI] at hk; omega
      match ks, hk2 with
      | [a, b], _ =>
        have ea : rd_T62 (tvs [a, b]) 0 = tv a := rd62_get [a, b] 0 a rfl
        have eb : rd_T62 (tvs [a, b]) 1 = tv b := rd62_get [a, b] 1 b rfl
        simp only [nodesAll] at hq
        have A := ih a (by simp) (wfs_get hws a (by simp)) q (by omega)
        have B := ih b (by simp) (wfs_get hws b (by simp)) q (by omega)
        rw [if_pos rfl, ea, eb, A, B]
        simp only [tvs_length, plainAll]
        cases plainB a <;> cases plainB b <;> simp
    · rw [if_neg h5]
      by_cases h1 : k = 1
      · simp [h1]
      · by_cases h2 : k = 2
        · simp [h2]
        · by_cases h3 : k = 3
          · simp [h3]
          · simp [h1, h2, h3, h5]

theorem isLoop_eq (ks : List Tm) (hks : ks.length ≤ 3) (hws : wfs ks) (ih : ∀ t ∈ ks, t.wf → ∀ k, 10 * t.nodes ≤ k → spec_l7Is.f k (tv t).f0 (tv t).f1 (tv t).f2 = some (handedB t)) :
    ∀ (d i : Nat) (b : Bool) (k : Nat), i + d = ks.length → d + 10 * nodesAll ks + 1 ≤ k → spec_l7Is.l0 k b (tvs ks) (ks.length : Int) (i : Int) = some (b && handedAll (ks.drop i)) := by
  intro d
  induction d with
  | zero =>
    intro i b k hi hk
    obtain ⟨k, rfl⟩ : ∃ m, k = m + 1 := ⟨k - 1, by omega⟩
    simp only [spec_l7Is.l0]
    rw [if_neg (by omega), List.drop_eq_nil_of_le (by omega)]
    simp [handedAll]
  | succ d ihd =>
    intro i b k hi hk
    obtain ⟨k, rfl⟩ : ∃ m, k = m + 1 := ⟨k - 1, by omega⟩
    have hlt : i < ks.length := by omega
    have hg : ks[i]? = some ks[i] := by simp [hlt]
    have hmem : ks[i] ∈ ks := List.getElem_mem hlt
    have hn := nodes_mem hmem
    have hd : ks.drop i = ks[i] :: ks.drop (i + 1) := by rw [List.drop_eq_getElem_cons hlt]
    simp only [spec_l7Is.l0]
    rw [if_pos (by omega), if_pos (by omega), tvs_length, if_pos (by omega), rd62_get ks i _ hg, ih _ hmem (wfs_get hws _ hmem) k (by omega), wrap_id (by omega) (by omega), hd]
    have e : (i : Int) + 1 = ((i + 1 : Nat) : Int) := by omega
    rw [e, Option.bind_some, ihd (i + 1) _ k (by omega) (by omega), ihd (i + 1) _ k (by omega) (by omega)]
    cases b <;> simp [handedAll]

theorem is_eq (t : Tm) : t.wf → ∀ k, 10 * t.nodes ≤ k → spec_l7Is.f k (tv t).f0 (tv t).f1 (tv t).f2 = some (handedB t) := by
  induction t using Tm.ind with
  | h k n ks ih =>
    intro hwf q hq
    have hwf' := hwf
    simp only [Tm.wf] at hwf
    obtain ⟨hk, hws⟩ := hwf
    have hkl : ks.length ≤ 3 := by have := arI_bd k; omega
    rw [nodes_mk] at hq
    obtain ⟨q, rfl⟩ : ∃ m, q = m + 2 := ⟨q - 2, by omega⟩
    rw [tv_f, handedB_mk]
    have J : ∀ b, spec_l7Is.j0 (q + 1) b k n (tvs ks) = some (b && handedAll ks) := by
      intro b
      simp only [spec_l7Is.j0, tvs_length]
      exact isLoop_eq ks hkl hws ih ks.length 0 b q (by omega) (by omega)
    have K : ∀ (i : Nat) t, ks[i]? = some t → rd_T62 (tvs ks) (i : Int) = tv t ∧ spec_l7Simple.f (q + 1) (tv t).f0 (tv t).f1 (tv t).f2 = some (plainB t) := by
      intro i t h
      have hm := List.mem_of_getElem? h
      have := nodes_mem hm
      exact ⟨rd62_get ks i t h, simple_eq t (wfs_get hws t hm) _ (by omega)⟩
    simp only [spec_l7Is.f]
    by_cases h4 : k = 4
    · have hk2 : ks.length = 2 := by rw [h4] at hk; simp [arI] at hk; omega
      have hg : ks[1]? = some ks[1] := by simp [hk2]
      obtain ⟨e, s⟩ := K 1 _ hg
      simp only [Int.cast_ofNat_Int] at e
      rw [if_pos h4, tvs_length, if_pos (by omega), e, s, Option.bind_some, J]
      simp [okB, h4, hg]
    · rw [if_neg h4]
      by_cases h5 : k = 5
      · have hk2 : ks.length = 2 := by rw [h5] at hk; simp [arI] at hk; omega
        match ks, hk2 with
        | [a, b], _ =>
          obtain ⟨e0, s0⟩ := K 0 a rfl
          obtain ⟨e1, s1⟩ := K 1 b rfl
          simp only [Int.cast_ofNat_Int] at e0 e1
          have L : (tvs [a, b]).length = 2 := by rw [tvs_length]; rfl
          rw [if_pos h5, L, if_pos (by omega), e0, s0, Option.bind_some]
          have : okB k (.mk k n [a, b]) [a, b] = (plainB a && plainB b) := by subst h5; simp [okB, plainB_mk, plainAll]
          rw [this]
          cases plainB a with
          | false => rw [if_neg (by simp), J]; simp
          | true => rw [if_pos rfl, if_pos (by omega), e1, s1, Option.bind_some, J]; simp
      · rw [if_neg h5]
        by_cases h6 : k = 6
        · have hk2 : ks.length = 3 := by rw [h6] at hk; simp [arI] at hk; omega
          have hg : ks[0]? = some ks[0] := by simp [hk2]
          obtain ⟨e, s⟩ := K 0 _ hg
          simp only [Int.cast_ofNat_Int] at e
          rw [if_pos h6, tvs_length, if_pos (by omega), e, s, Option.bind_some, J]
          simp [okB, h6, hg]
        · rw [if_neg h6]
          by_cases h7 : k = 7
          · rw [if_pos h7, J]
            simp [okB, h7]
          · rw [if_neg h7, J]
            simp [okB, h4, h5, h6, h7]

theorem IsHanded_eq (l : List S66) (k : Nat) (hk : 6000 ≤ k) : spec_IsHanded.f k l = some (handedOf l) := by
  have h := l3Tree_eq l k (by omega)
  unfold spec_IsHanded.f handedOf
  cases hq : tmof l with
  | none => rw [hq] at h; obtain ⟨b, n, ks, h⟩ := h; rw [h]; rfl
  | some t =>
    rw [hq] at h
    simp only at h
    rw [h, Option.bind_some, if_pos rfl, is_eq t (tmof_wf hq) k (by have := tmof_nodes hq; omega)]
    rfl
end Go.Proofs.Ytgoiifpimpnlpaa.PAll
