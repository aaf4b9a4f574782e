/- The law FnRowsIn answers true for every list of rows that is drawn. It has no condition. -/
import Derived.Test.YthmhmmgackgaaaaQdr
import Derived.Test.YthmhmmgackgaaaaG7
import Derived.Test.YthmhmmgackgaaaaG9
namespace Go.Proofs.Ythmhmmgackgaaaa.Pure
open Go.RowKit Go.Proofs.Ythmhmmgackgaaaa.G Go.Proofs.YthmhmmgackgaaaaW.PrintWords Go.Proofs.YthmhmmgackgaaaaW.PrintLast

theorem drawRowsIn_ev (l0 : List Int) (hw : ∀ x ∈ l0, (Lit.int .u8 x).wf = true) : ∃ l, l.length ≤ 10 ∧ Ev (fun k => spec_DrawRowsIn.f k l0) l := by
  obtain ⟨s, hs, e⟩ := open_ev l0 hw
  obtain ⟨l, q, g1, g2, g3⟩ := drows_ev s hs 0 (by omega)
  refine ⟨l, g1, ?_⟩
  simp only [spec_DrawRowsIn.f]
  rw [ev_bind0 e, ev_bind g3, ev_some]
theorem FnRowsIn : laws_FnRowsIn.Pure := by
  intro l0 hm _ hw
  refine Ev.rounds ?_
  simp only [laws_FnRowsIn.f]
  by_cases c : (l0.length : Int) > 1048576
  · rw [ev_pos c, ev_some]
  obtain ⟨l, h1, e⟩ := drawRowsIn_ev l0 hw
  rw [ev_neg c, ev_bind e, ev_bind (impl_rowsIn_ev l (by omega)), ev_bind (spec_rowsIn_ev l (by omega)), ev_pos (by simp), ev_bind (impl_rowsHas_ev l (by omega) 5), ev_some]
  unfold hasC
  by_cases h : rowsIn l = true
  · rw [if_pos ⟨h, by omega⟩, h]
    rfl
  · rw [if_neg (fun z => h z.1), Bool.eq_false_iff.2 h]
    rfl
end Go.Proofs.Ythmhmmgackgaaaa.Pure
