/- The law FnExactMachBoth answers true for every two machines. It has no condition. -/
import Derived.Test.YtbgjehgfaakfdaaQboth
import Derived.Test.YtbgjehgfaakfdaaQmach3B
import Derived.Test.YtbgjehgfaakfdaaStmtFnExactMachBoth
import Derived.Test.YtbgjehgfaakfdaaG6
namespace Go.Proofs.Ytbgjehgfaakfdaa.Pure
open Go.RowKit Go.Proofs.Ytbgjehgfaakfdaa.G Go.Proofs.YtbgjehgfaakfdaaW.PrintWords Go.Proofs.YtbgjehgfaakfdaaW.PrintLast

theorem markMach_ev (l : List Int) (a b k0 : Int) (hm : l.length ≤ 1048576) (hk : 1 ≤ k0 ∧ k0 ≤ 2000000) : Ev (fun k => laws_markMachine.f k l a b k0) (k0 + (l.length : Int), ups k0 l.length) := by
  simp only [laws_markMachine.f]
  rw [ev_bind (mark_ev l k0 (by omega) (by omega)), ev_some]
theorem heldMach_ev (n : Nat) (a b : Int) (hm : n ≤ 1048576) : Ev (fun k => laws_heldMachine.f k (ups 1 n) a b 1) (1 + (n : Int)) := by
  simp only [laws_heldMachine.f]
  rw [ev_bind (held_ev n 1 (by omega) (by omega)), ev_neg (by omega), ev_some]
theorem FnExactMachBoth : FnExactMachBoth.Pure := by
  intro l a b m c e hm hw wa wb hm2 hw2 wc we
  refine Ev.rounds ?_
  simp only [laws_FnExactMachBoth.f]
  obtain ⟨r, hr, hs⟩ := szMach l a b 1048576 hm (by omega)
  rw [ev_bind0 hr]
  by_cases c0 : r < 0
  · rw [ev_pos c0, ev_some]
  obtain ⟨h1, q0, q1⟩ := hs c0
  obtain ⟨r2, hr2, hs2⟩ := szMach m c e r hm2 ⟨q0, q1⟩
  rw [ev_neg c0, ev_bind0 hr2]
  by_cases c1 : r2 < 0
  · rw [ev_pos c1, ev_some]
  obtain ⟨h2, _⟩ := hs2 c1
  have t := toMach_ev l a b h1
  have t2 := toMach_ev m c e h2
  have hc := bothC_len l a b m c e
  have i := impl_both_ev l a b m c e
  have s := spec_both_ev l a b m c e h1 h2
  generalize bothC l a b m c e = T at hc i s
  obtain ⟨L, u, v, ok⟩ := T
  simp only at hc
  have e2 := eqMach_self L u v (by omega)
  rw [ev_neg c1, ev_bind t, ev_bind t2, ev_bind s, ev_bind t, ev_bind t2, ev_bind i, ev_bind e2, ev_pos rfl, ev_step (fun k => by rw [laws_FnExactMachBoth.j0]), ev_neg (by simp), ev_bind t, ev_bind (eqMach_self l a b h1), ev_pos rfl, ev_bind t2, ev_bind (eqMach_self m c e h2), ev_pos rfl, ev_bind (markMach_ev l a b 1 h1 (by omega)), ev_bind (markMach_ev m c e _ h2 (by simp only; omega)), ev_neg (by simp only; omega), ev_bind e2, ev_pos rfl,
    ev_step (fun k => by rw [laws_FnExactMachBoth.j1]), ev_neg (by simp), ev_bind (markMach_ev L u v 1 (by omega) (by omega)), ev_bind (heldMach_ev L.length u v (by omega)), ev_neg (by omega), ev_pos rfl, ev_bind t, ev_bind t2, ev_bind i, ev_bind e2, ev_pos rfl,
    ev_step (fun k => by rw [laws_FnExactMachBoth.j2]), ev_neg (by simp), ev_bind (heldMach_ev L.length u v (by omega)), ev_neg (by omega), ev_pos rfl, ev_some]
end Go.Proofs.Ytbgjehgfaakfdaa.Pure
