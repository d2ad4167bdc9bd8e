/- FnExactThenComp, pure: the program's answer is the reference's, and its memory is its own. -/
import Derived.Test.YtjnaokdncemggaaQthen
import Derived.Test.YtjnaokdncemggaaStFnExactThenComp
namespace Go.Proofs.Ytjnaokdncemggaa.PAll
open Go.RowKit Go.Proofs.YtjnaokdncemggaaW.PrintWords Go.Proofs.YtjnaokdncemggaaW.PrintLast Go.Proofs.YtjnaokdncemggaaW.PrintMore

theorem tot_map (ls : List (List S97)) : tot (ls.map (List.map cvC)) = tot ls := by
  induction ls with
  | nil => rfl
  | cons l ls ih => simp [tot, ih]

theorem FnExactThenComp_pure : laws_FnExactThenComp.Pure := by
  intro l0 l1 g0 g1
  refine ⟨3000000, ?_⟩
  unfold laws_FnExactThenComp.f laws_szCompS.f
  by_cases h : wrap64 (1048576 - (l0.length : Int)) < 0
  · rw [if_pos h]; simp
  · have hl : l0.length ≤ 1048576 := by have := g0.1; unfold wrap64 at h; omega
    have hw : wrap64 (1048576 - (l0.length : Int)) = 1048576 - (l0.length : Int) := wrap_id (by omega) (by omega)
    rw [if_neg h]
    simp only [Option.bind_some]
    rw [if_neg h, hw]
    obtain ⟨r, h2, h3⟩ := szCompSS_eq l1 (1048576 - (l0.length : Int)) g1.1 (fun x hx => (g1.2 x hx).1) (by omega) (by omega) 3000000 (by omega)
    rw [h2, Option.bind_some]
    by_cases hr : r < 0
    · rw [if_pos hr]
    · rw [if_neg hr]
      obtain ⟨_, hrl, hrx, hrt⟩ := h3 (by omega)
      have hin : ∀ x ∈ l1.map (List.map cvC), x.length ≤ 1048576 := by
        intro x hx
        obtain ⟨y, hy, rfl⟩ := List.mem_map.mp hx
        simpa using hrx y hy
      have T0 := fun k hk => toCompS_eq l0 (by omega) k hk
      have T1 := fun k hk => toCompSS_eq l1 (by omega) 1048576 (by omega) hrx k hk
      rw [T0 _ (by omega), Option.bind_some, T1 _ (by omega), Option.bind_some, specThen_eq _ _ _ (by omega), Option.bind_some]
      simp only [impl_ThenComp.f, Option.bind_some]
      have hrs := thenOf_len (l0.map cvC) (l1.map (List.map cvC))
      obtain ⟨ys, hm, hh⟩ := markHeldC_eq (thenOf (l0.map cvC) (l1.map (List.map cvC))).1 (by omega) 2999998 (by omega)
      obtain ⟨zs, hz⟩ := markComp_eq (l0.map cvC) (by simp; omega) 2999999 (by simp; omega)
      rw [eqCompS_self _ (by omega) _ (by omega), Option.bind_some, if_pos rfl]
      simp only [laws_FnExactThenComp.j0, bne_self_eq_false]
      rw [if_neg (by simp), T0 _ (by omega), Option.bind_some, eqCompS_self _ (by simp; omega) _ (by simp; omega), Option.bind_some, if_pos rfl, T1 _ (by omega), Option.bind_some, eqCompSS_self _ (by simp; omega) 1048576 (by omega) hin _ (by simp; omega), Option.bind_some, if_pos rfl, hz, Option.bind_some]
      have hmk : laws_markCompSS.f 2999999 (l1.map (List.map cvC)) ((1 + 2 * (l0.map cvC).length : Nat) : Int) = some (((1 + 2 * (l0.map cvC).length : Nat) : Int) + 2 * tot l1) := by
        unfold laws_markCompSS.f
        rw [tot_map, if_pos ⟨by omega, by simp; omega, by simp; omega⟩]
      have hpos := tot_pos l1
      rw [hmk, Option.bind_some, if_neg (by omega), eqCompS_self _ (by omega) _ (by omega), Option.bind_some, if_pos rfl]
      simp only [laws_FnExactThenComp.j1, impl_ThenComp.f]
      rw [if_neg (by simp), hm, Option.bind_some]
      simp only
      rw [hh _ (by omega), Option.bind_some, if_neg (by omega), if_pos rfl, T0 _ (by omega), Option.bind_some, T1 _ (by omega), Option.bind_some, Option.bind_some, eqCompS_self _ (by omega) _ (by omega), Option.bind_some, if_pos rfl]
      simp only [laws_FnExactThenComp.j2, bne_self_eq_false]
      rw [if_neg (by simp), hh _ (by omega), Option.bind_some, if_neg (by omega), if_pos rfl]
end Go.Proofs.Ytjnaokdncemggaa.PAll
