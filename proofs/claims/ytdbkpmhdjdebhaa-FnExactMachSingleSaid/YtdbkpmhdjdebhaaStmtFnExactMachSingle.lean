/- The law FnExactMachSingle as a statement over numbers and lists alone. -/
import Derived.Test.YtdbkpmhdjdebhaaG26
import Derived.Test.YtdbkpmhdjdebhaaQopen
namespace Go.Proofs.Ytdbkpmhdjdebhaa.Pure
open Go.RowKit Go.Proofs.Ytdbkpmhdjdebhaa.G Go.Proofs.YtdbkpmhdjdebhaaW.PrintWords Go.Proofs.YtdbkpmhdjdebhaaW.PrintLast
/-- The pure statement of the law. -/
def FnExactMachSingle.Pure : Prop := ∀ (l0_0 : List Int) (a0_1 : Int) (a0_2 : Int), l0_0.length ≤ maxLen → (∀ x ∈ l0_0, (Lit.int .i64 x).wf = true) → (Lit.int .i64 a0_1).wf = true → (Lit.int .i64 a0_2).wf = true → ∃ k, laws_FnExactMachSingle.f k l0_0 a0_1 a0_2 = some true
end Go.Proofs.Ytdbkpmhdjdebhaa.Pure
