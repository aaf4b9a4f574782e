/- The law FnExactMachSingle answers true for every machine. It has no condition. -/
import Derived.Test.YtdbkpmhdjdebhaaQsingle
import Derived.Test.YtdbkpmhdjdebhaaStmtFnExactMachSingle
namespace Go.Proofs.Ytdbkpmhdjdebhaa.Pure
open Go.RowKit Go.Proofs.Ytdbkpmhdjdebhaa.G Go.Proofs.YtdbkpmhdjdebhaaW.PrintWords Go.Proofs.YtdbkpmhdjdebhaaW.PrintLast

theorem FnExactMachSingle : FnExactMachSingle.Pure := by
  intro l a b hm hw wa wb
  refine Ev.rounds ?_
  simp only [laws_FnExactMachSingle.f]
  obtain ⟨r, hr, hs⟩ := szMach l a b 1048576 hm (by omega)
  rw [ev_bind0 hr]
  by_cases c : r < 0
  · rw [ev_pos c, ev_some]
  obtain ⟨h1, _⟩ := hs c
  have t := toMach_ev l a b h1
  rw [ev_neg c, ev_bind t, ev_bind (spec_single_ev l a b h1), ev_bind t, ev_bind0 (impl_single l a b), ev_neg (by simp), ev_bind t, ev_bind (eqMach_self l a b h1), ev_pos rfl, ev_some]
end Go.Proofs.Ytdbkpmhdjdebhaa.Pure
