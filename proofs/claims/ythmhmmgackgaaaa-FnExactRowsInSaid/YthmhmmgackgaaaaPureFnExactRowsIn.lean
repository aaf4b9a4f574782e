/- The law FnExactRowsIn answers true for every list of lists of numbers: the program's RowsIn and the reference's agree. It has no condition. -/
import Derived.Test.YthmhmmgackgaaaaQrows2
import Derived.Test.YthmhmmgackgaaaaStmtFnExactRowsIn
namespace Go.Proofs.Ythmhmmgackgaaaa.Pure
open Go.RowKit Go.Proofs.Ythmhmmgackgaaaa.G Go.Proofs.YthmhmmgackgaaaaW.PrintWords Go.Proofs.YthmhmmgackgaaaaW.PrintLast

theorem FnExactRowsIn : FnExactRowsIn.Pure := by
  intro l hm hw
  refine Ev.rounds ?_
  simp only [laws_FnExactRowsIn.f]
  obtain ⟨r, hr, hs⟩ := sz_ev l hm (fun q hq => (hw q hq).1)
  rw [ev_bind hr]
  by_cases c : r < 0
  · rw [ev_pos c, ev_some]
  obtain ⟨h1, h2⟩ := hs (by omega)
  have t := toIntSS_ev l h1 h2
  rw [ev_neg c, ev_bind t, ev_bind (spec_rowsIn_ev l h1), ev_bind t, ev_bind (impl_rowsIn_ev l h1), ev_neg (by simp), ev_bind t, ev_bind (eqIntSS_self l h1 h2), ev_pos rfl, ev_some]
end Go.Proofs.Ythmhmmgackgaaaa.Pure
