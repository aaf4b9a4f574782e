/- The law FnExactTermSize answers true for every text. It has no condition. -/
import Derived.Test.YtkapeoigpdppeaaQsizes
import Derived.Test.YtkapeoigpdppeaaG4
namespace Go.Proofs.Ytkapeoigpdppeaa.Pure
open Go.RowKit Go.Proofs.Ytkapeoigpdppeaa.G Go.Proofs.YtkapeoigpdppeaaW.PrintWords Go.Proofs.YtkapeoigpdppeaaW.PrintLast
theorem FnExactTermSize : laws_FnExactTermSize.Pure := by
  intro a _
  refine Ev.rounds ?_
  simp only [laws_FnExactTermSize.f]
  by_cases c : (a.size : Int) > 1048576
  · rw [ev_pos c, ev_some]
  have hs : a.size ≤ 1048576 := by omega
  rw [ev_neg c, ev_bind (spec_size_ev a hs), ev_bind0 (impl_size_eq a hs), ev_pos rfl, ev_neg (by simp), ev_some]
end Go.Proofs.Ytkapeoigpdppeaa.Pure
