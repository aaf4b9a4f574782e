/- The law FnTermIn answers true for every text that is drawn. It has no condition. -/
import Derived.Test.YtkapeoigpdppeaaQterm
import Derived.Test.YtkapeoigpdppeaaG9
namespace Go.Proofs.Ytkapeoigpdppeaa.Pure
open Go.RowKit Go.Proofs.Ytkapeoigpdppeaa.G Go.Proofs.YtkapeoigpdppeaaW.PrintWords Go.Proofs.YtkapeoigpdppeaaW.PrintLast
theorem FnTermIn : laws_FnTermIn.Pure := by
  intro l0 hm _ hw
  refine Ev.rounds ?_
  simp only [laws_FnTermIn.f]
  by_cases c : (l0.length : Int) > 1048576
  · rw [ev_pos c, ev_some]
  obtain ⟨s, hs, eo⟩ := open_ev l0 hw
  obtain ⟨t, q, _, e⟩ := said_ev s hs
  have ed : Ev (fun k => spec_DrawTermIn.f k l0) t := by
    simp only [spec_DrawTermIn.f]
    rw [ev_bind0 eo, ev_bind e, ev_some]
  rw [ev_neg c, ev_bind ed, ev_bind0 (show impl_TermIn.f t = some (tp_in t.data.toList) from rfl), ev_bind0 (show spec_TermIn.f t = some (tp_in t.data.toList) from rfl), ev_pos (by simp)]
  unfold impl_TermSize.f
  rw [show impl_TermIn.f t = some (tp_in t.data.toList) from rfl]
  cases h : tp_in t.data.toList
  · exact (ev_const).2 rfl
  · exact (ev_const).2 rfl
end Go.Proofs.Ytkapeoigpdppeaa.Pure
