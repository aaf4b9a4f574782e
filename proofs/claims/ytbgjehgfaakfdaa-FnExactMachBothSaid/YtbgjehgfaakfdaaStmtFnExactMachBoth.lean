/- The law FnExactMachBoth as a statement over numbers and lists alone. -/
import Derived.Test.YtbgjehgfaakfdaaG7
import Derived.Test.YtbgjehgfaakfdaaQopen
namespace Go.Proofs.Ytbgjehgfaakfdaa.Pure
open Go.RowKit Go.Proofs.Ytbgjehgfaakfdaa.G Go.Proofs.YtbgjehgfaakfdaaW.PrintWords Go.Proofs.YtbgjehgfaakfdaaW.PrintLast
/-- The pure statement of the law. -/
def FnExactMachBoth.Pure : Prop := ∀ (l0_0 : List Int) (a0_1 : Int) (a0_2 : Int) (l1_0 : List Int) (a1_1 : Int) (a1_2 : Int), l0_0.length ≤ maxLen → (∀ x ∈ l0_0, (Lit.int .i64 x).wf = true) → (Lit.int .i64 a0_1).wf = true → (Lit.int .i64 a0_2).wf = true → l1_0.length ≤ maxLen → (∀ x ∈ l1_0, (Lit.int .i64 x).wf = true) → (Lit.int .i64 a1_1).wf = true → (Lit.int .i64 a1_2).wf = true → ∃ k, laws_FnExactMachBoth.f k l0_0 a0_1 a0_2 l1_0 a1_1 a1_2 = some true
end Go.Proofs.Ytbgjehgfaakfdaa.Pure
