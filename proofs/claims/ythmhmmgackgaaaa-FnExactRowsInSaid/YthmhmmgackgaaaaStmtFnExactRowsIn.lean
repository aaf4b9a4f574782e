/- The law FnExactRowsIn as a statement over numbers and lists alone. -/
import Derived.Test.YthmhmmgackgaaaaG2
import Derived.Test.YthmhmmgackgaaaaQopen
namespace Go.Proofs.Ythmhmmgackgaaaa.Pure
open Go.RowKit Go.Proofs.Ythmhmmgackgaaaa.G Go.Proofs.YthmhmmgackgaaaaW.PrintWords Go.Proofs.YthmhmmgackgaaaaW.PrintLast
/-- The pure statement of the law. -/
def FnExactRowsIn.Pure : Prop := ∀ (l0 : List (List Int)), l0.length ≤ maxLen → (∀ r ∈ l0, r.length ≤ maxLen ∧ ∀ x ∈ r, (Lit.int .i64 x).wf = true) → ∃ k, laws_FnExactRowsIn.f k l0 = some true
end Go.Proofs.Ythmhmmgackgaaaa.Pure
