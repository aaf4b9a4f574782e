/- The law FnExactMachSet as a statement over numbers and lists alone. -/
import Derived.Test.YtdkebjjmnhdcnaaG41
import Derived.Test.YtdkebjjmnhdcnaaQopen
namespace Go.Proofs.Ytdkebjjmnhdcnaa.Pure
open Go.RowKit Go.Proofs.Ytdkebjjmnhdcnaa.G Go.Proofs.YtdkebjjmnhdcnaaW.PrintWords Go.Proofs.YtdkebjjmnhdcnaaW.PrintLast
/-- The pure statement of the law. -/
def FnExactMachSet.Pure : Prop := ∀ (l0_0 : List Int) (a0_1 : Int) (a0_2 : Int), l0_0.length ≤ maxLen → (∀ x ∈ l0_0, (Lit.int .i64 x).wf = true) → (Lit.int .i64 a0_1).wf = true → (Lit.int .i64 a0_2).wf = true → ∃ k, laws_FnExactMachSet.f k l0_0 a0_1 a0_2 = some true
end Go.Proofs.Ytdkebjjmnhdcnaa.Pure
