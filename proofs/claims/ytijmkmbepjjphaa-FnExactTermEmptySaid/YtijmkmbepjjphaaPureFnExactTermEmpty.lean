/- The law FnExactTermEmpty answers true for every text. It has no condition. -/
import Derived.Test.YtijmkmbepjjphaaQhas
import Derived.Test.YtijmkmbepjjphaaG14
namespace Go.Proofs.Ytijmkmbepjjphaa.Pure
open Go.RowKit Go.Proofs.Ytijmkmbepjjphaa.G Go.Proofs.Ytijmkmbepjjphaa.G.X Go.Proofs.YtijmkmbepjjphaaW.PrintWords Go.Proofs.YtijmkmbepjjphaaW.PrintLast
theorem FnExactTermEmpty : laws_FnExactTermEmpty.Pure := by
  intro a _
  refine Ev.rounds ?_
  simp only [laws_FnExactTermEmpty.f]
  by_cases c : (a.size : Int) > 1048576
  · rw [ev_pos c, ev_some]
  rw [ev_neg c]
  have h : Ev (fun k => spec_TermEmpty.f k a) (th_out a.data.toList 0) := by
    simp only [spec_TermEmpty.f]
    rw [ev_bind0 (of_eq a), of_out, th_out]
    cases ho : te_of a.data.toList with
    | none => exact (ev_neg (by simp)).2 ((ev_some _ _).2 rfl)
    | some x =>
      obtain ⟨r, h1, h2, h3⟩ := marks_ev (N := 1) (by omega) (by omega) (of_wt ho)
      refine (ev_pos rfl).2 ((ev_bind h3).2 ((ev_pos (by omega)).2 ((ev_some _ _).2 ?_)))
      rw [show (0 : Int) = ((0 : Nat) : Int) from rfl, rd_mkb, h2 0 (by omega), Int.toNat_natCast]
      rfl
  rw [ev_bind h, ev_bind0 (show impl_TermEmpty.f a = some (th_out a.data.toList 0) from rfl), ev_neg (by simp), ev_some]
end Go.Proofs.Ytijmkmbepjjphaa.Pure
