/- The law FnExactTermTidy answers true for every text. It has no condition. -/
import Derived.Test.YtijmkmbepjjphaaQtidyT
import Derived.Test.YtijmkmbepjjphaaG8
namespace Go.Proofs.Ytijmkmbepjjphaa.Pure
open Go.RowKit Go.Proofs.Ytijmkmbepjjphaa.G Go.Proofs.Ytijmkmbepjjphaa.G.X Go.Proofs.YtijmkmbepjjphaaW.PrintWords Go.Proofs.YtijmkmbepjjphaaW.PrintLast
theorem FnExactTermTidy : laws_FnExactTermTidy.Pure := by
  intro a _
  refine Ev.rounds ?_
  simp only [laws_FnExactTermTidy.f]
  by_cases c : (a.size : Int) > 1048576
  · rw [ev_pos c, ev_some]
  rw [ev_neg c]
  have h : Ev (fun k => spec_TermTidy.f k a) (tt_out a.data.toList) := by
    simp only [spec_TermTidy.f]
    rw [ev_bind0 (of_eq a), of_out, tt_out]
    cases ho : te_of a.data.toList with
    | none => exact (ev_neg (by simp)).2 ((ev_some _ _).2 rfl)
    | some x =>
      have hs := te_of_size ho
      exact (ev_pos rfl).2 ((ev_bind (tidy_ev (of_wt ho) (by omega))).2 ((ev_some _ _).2 rfl))
  rw [ev_bind h, ev_bind0 (show impl_TermTidy.f a = some (tt_out a.data.toList) from rfl), ev_pos rfl, ev_neg (by simp), ev_some]
end Go.Proofs.Ytijmkmbepjjphaa.Pure
