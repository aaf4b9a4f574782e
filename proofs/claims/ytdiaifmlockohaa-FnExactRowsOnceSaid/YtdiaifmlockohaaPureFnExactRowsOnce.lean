/- The law FnExactRowsOnce answers true for every list of lists of numbers. It has no condition. -/
import Derived.Test.YtdiaifmlockohaaQonce2
import Derived.Test.YtdiaifmlockohaaQrowsB
import Derived.Test.YtdiaifmlockohaaStmtFnExactRowsOnce
namespace Go.Proofs.Ytdiaifmlockohaa.Pure
open Go.RowKit Go.Proofs.Ytdiaifmlockohaa.G Go.Proofs.YtdiaifmlockohaaW.PrintWords Go.Proofs.YtdiaifmlockohaaW.PrintLast

theorem FnExactRowsOnce : FnExactRowsOnce.Pure := by
  intro l hm hw
  refine Ev.rounds ?_
  simp only [laws_FnExactRowsOnce.f]
  obtain ⟨r, hr, hs⟩ := sz_ev l hm (fun q hq => (hw q hq).1)
  rw [ev_bind hr]
  by_cases c : r < 0
  · rw [ev_pos c, ev_some]
  obtain ⟨h1, h2⟩ := hs (by omega)
  have t := toIntSS_ev l h1 h2
  rw [ev_neg c, ev_bind t, ev_bind (spec_once_ev l h1), ev_bind t, ev_bind (impl_once_ev l h1).1, ev_neg (by simp), ev_bind t, ev_bind (eqIntSS_self l h1 h2), ev_pos rfl, ev_some]
end Go.Proofs.Ytdiaifmlockohaa.Pure
