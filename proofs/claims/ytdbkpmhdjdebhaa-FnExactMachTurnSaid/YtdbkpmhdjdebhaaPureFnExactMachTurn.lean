/- The law FnExactMachTurn answers true for every machine. It has no condition. -/
import Derived.Test.YtdbkpmhdjdebhaaQturn
import Derived.Test.YtdbkpmhdjdebhaaStmtFnExactMachTurn
import Derived.Test.YtdbkpmhdjdebhaaG23
namespace Go.Proofs.Ytdbkpmhdjdebhaa.Pure
open Go.RowKit Go.Proofs.Ytdbkpmhdjdebhaa.G Go.Proofs.YtdbkpmhdjdebhaaW.PrintWords Go.Proofs.YtdbkpmhdjdebhaaW.PrintLast

theorem markMach_ev (l : List Int) (a b : Int) (hm : l.length ≤ 1048576) : Ev (fun k => laws_markMachine.f k l a b 1) (1 + (l.length : Int), ups 1 l.length) := by
  simp only [laws_markMachine.f]
  rw [ev_bind (mark_ev l 1 (by omega) (by omega)), ev_some]
theorem heldMach_ev (n : Nat) (a b : Int) (hm : n ≤ 1048576) : Ev (fun k => laws_heldMachine.f k (ups 1 n) a b 1) (1 + (n : Int)) := by
  simp only [laws_heldMachine.f]
  rw [ev_bind (held_ev n 1 (by omega) (by omega)), ev_neg (by omega), ev_some]
theorem FnExactMachTurn : FnExactMachTurn.Pure := by
  intro l a b hm hw wa wb
  refine Ev.rounds ?_
  simp only [laws_FnExactMachTurn.f]
  obtain ⟨r, hr, hs⟩ := szMach l a b 1048576 hm (by omega)
  rw [ev_bind0 hr]
  by_cases c : r < 0
  · rw [ev_pos c, ev_some]
  obtain ⟨h1, _⟩ := hs c
  have t := toMach_ev l a b h1
  have hc := turnC_len l a b
  have i := impl_turn_ev l a b
  have s := spec_turn_ev l a b h1
  generalize turnC l a b = T at hc i s
  obtain ⟨l2, a2, b2, ok⟩ := T
  simp only at hc
  have e2 := eqMach_self l2 a2 b2 (by omega)
  rw [ev_neg c, ev_bind t, ev_bind s, ev_bind t, ev_bind i, ev_bind e2, ev_pos rfl, ev_step (fun k => by rw [laws_FnExactMachTurn.j0]), ev_neg (by simp), ev_bind t, ev_bind (eqMach_self l a b h1), ev_pos rfl, ev_bind (markMach_ev l a b h1), ev_neg (by omega), ev_bind e2, ev_pos rfl,
    ev_step (fun k => by rw [laws_FnExactMachTurn.j1]), ev_neg (by simp), ev_bind (markMach_ev l2 a2 b2 (by omega)), ev_bind (heldMach_ev l2.length a2 b2 (by omega)), ev_neg (by omega), ev_pos rfl, ev_bind t, ev_bind i, ev_bind e2, ev_pos rfl,
    ev_step (fun k => by rw [laws_FnExactMachTurn.j2]), ev_neg (by simp), ev_bind (heldMach_ev l2.length a2 b2 (by omega)), ev_neg (by omega), ev_pos rfl, ev_some]
end Go.Proofs.Ytdbkpmhdjdebhaa.Pure
