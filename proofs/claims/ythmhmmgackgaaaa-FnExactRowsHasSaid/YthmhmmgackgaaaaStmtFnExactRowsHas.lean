/- The law FnExactRowsHas as a statement over numbers and lists alone. -/
import Derived.Test.YthmhmmgackgaaaaG8
import Derived.Test.YthmhmmgackgaaaaQopen
namespace Go.Proofs.Ythmhmmgackgaaaa.Pure
open Go.RowKit Go.Proofs.Ythmhmmgackgaaaa.G Go.Proofs.YthmhmmgackgaaaaW.PrintWords Go.Proofs.YthmhmmgackgaaaaW.PrintLast
/-- The pure statement of the law. -/
def FnExactRowsHas.Pure : Prop := ∀ (l0 : List (List Int)) (a1 : Int), l0.length ≤ maxLen → (∀ r ∈ l0, r.length ≤ maxLen ∧ ∀ x ∈ r, (Lit.int .i64 x).wf = true) → (Lit.int .i64 a1).wf = true → ∃ k, laws_FnExactRowsHas.f k l0 a1 = some true
end Go.Proofs.Ythmhmmgackgaaaa.Pure
