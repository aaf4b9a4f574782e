/- The law FnExactMachTakes answers true for every machine and number. It has no condition. -/
import Derived.Test.YtdbkpmhdjdebhaaQmach3
import Derived.Test.YtdbkpmhdjdebhaaStmtFnExactMachTakes
namespace Go.Proofs.Ytdbkpmhdjdebhaa.Pure
open Go.RowKit Go.Proofs.Ytdbkpmhdjdebhaa.G Go.Proofs.YtdbkpmhdjdebhaaW.PrintWords Go.Proofs.YtdbkpmhdjdebhaaW.PrintLast

theorem FnExactMachTakes : FnExactMachTakes.Pure := by
  intro l a b n hm hw wa wb wn
  refine Ev.rounds ?_
  simp only [laws_FnExactMachTakes.f]
  obtain ⟨r, hr, hs⟩ := szMach l a b 1048576 hm (by omega)
  rw [ev_bind0 hr]
  by_cases c : r < 0
  · rw [ev_pos c, ev_some]
  obtain ⟨h1, _⟩ := hs c
  have t := toMach_ev l a b h1
  rw [ev_neg c, ev_bind t, ev_bind (spec_machTakes_ev l a b n h1), ev_bind t, ev_bind (impl_machTakes_ev l a b n), ev_neg (by simp), ev_bind t, ev_bind (eqMach_self l a b h1), ev_pos rfl, ev_some]
end Go.Proofs.Ytdbkpmhdjdebhaa.Pure
