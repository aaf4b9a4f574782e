/- The law FnExactTermIn answers true for every text. It has no condition. -/
import Derived.Test.YtkapeoigpdppeaaG3
import Derived.Test.YtkapeoigpdppeaaQ0
namespace Go.Proofs.Ytkapeoigpdppeaa.Pure
open Go.RowKit Go.Proofs.Ytkapeoigpdppeaa.G Go.Proofs.YtkapeoigpdppeaaW.PrintWords Go.Proofs.YtkapeoigpdppeaaW.PrintLast
theorem FnExactTermIn : laws_FnExactTermIn.Pure := by
  intro a _
  unfold laws_FnExactTermIn.f
  by_cases c : (a.size : Int) > 1048576
  · rw [if_pos c]
  · rw [if_neg c]
    simp [spec_TermIn.f, impl_TermIn.f]
end Go.Proofs.Ytkapeoigpdppeaa.Pure
