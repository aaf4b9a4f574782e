/- The law FnExactRowsHas answers true for every list of lists of numbers and every number: the program's RowsHas and the reference's return the same. It has no condition. -/
import Derived.Test.YthmhmmgackgaaaaQrows2
import Derived.Test.YthmhmmgackgaaaaStmtFnExactRowsHas
namespace Go.Proofs.Ythmhmmgackgaaaa.Pure
open Go.RowKit Go.Proofs.Ythmhmmgackgaaaa.G Go.Proofs.YthmhmmgackgaaaaW.PrintWords Go.Proofs.YthmhmmgackgaaaaW.PrintLast

theorem FnExactRowsHas : FnExactRowsHas.Pure := by
  intro l n hm hw hn
  refine Ev.rounds ?_
  simp only [laws_FnExactRowsHas.f]
  obtain ⟨r, hr, hs⟩ := sz_ev l hm (fun q hq => (hw q hq).1)
  rw [ev_bind hr]
  by_cases c : r < 0
  · rw [ev_pos c, ev_some]
  obtain ⟨h1, h2⟩ := hs (by omega)
  have t := toIntSS_ev l h1 h2
  rw [ev_neg c, ev_bind t, ev_bind (spec_rowsHas_ev l h1 n), ev_bind t, ev_bind (impl_rowsHas_ev l h1 n), ev_pos rfl, ev_step (fun k => by rw [laws_FnExactRowsHas.j0]), ev_neg (by simp), ev_bind t, ev_bind (eqIntSS_self l h1 h2), ev_pos rfl, ev_some]
end Go.Proofs.Ythmhmmgackgaaaa.Pure
