/- The law FnExactRowsOnce as a statement over numbers and lists alone. -/
import Derived.Test.YtdiaifmlockohaaG14
import Derived.Test.YtdiaifmlockohaaQopen
namespace Go.Proofs.Ytdiaifmlockohaa.Pure
open Go.RowKit Go.Proofs.Ytdiaifmlockohaa.G Go.Proofs.YtdiaifmlockohaaW.PrintWords Go.Proofs.YtdiaifmlockohaaW.PrintLast
/-- The pure statement of the law. -/
def FnExactRowsOnce.Pure : Prop := ∀ (l0 : List (List Int)), l0.length ≤ maxLen → (∀ r ∈ l0, r.length ≤ maxLen ∧ ∀ x ∈ r, (Lit.int .i64 x).wf = true) → ∃ k, laws_FnExactRowsOnce.f k l0 = some true
end Go.Proofs.Ytdiaifmlockohaa.Pure
