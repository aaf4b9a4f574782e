/-
  No cell of these rows narrows 'for every input' (looked for: loops, veiled, ifaces, maps, wideKeys, modest, calm, conditions, laid).
  DERIVED. THE GIVEN ROWS OF THIS SEAT. 3 by the template 'for every input the law returns true; each argument reads behind the call as it read before'; 0 by the template 'total and deterministic' (their statements: YtijmkmbepjjphaaTotals.lean).
  GIVEN WITH THE SEED: the statements are not yours to turn. If you find one false, say at which input.
  Laid BY PROGRAM, IN A SANDBOX (cutbox-rows.mjs): the forced cells as the released guide's own fill.sh prints them over the translation 8a9b4d7a43e60e26… (all of the seat's roots in one cut). By AI agents, Wed Nov 11 2026. No macro, syntax, notation, axiom, sorry.
-/
import Derived.Test.YtijmkmbepjjphaaChecked
import GoSem.Claim
import GoSem.ClaimJoined
import GoSem.ClaimMapViews
import Derived.JoinedTies
import Derived.KernelRfl
namespace Go.Proofs.Ytijmkmbepjjphaa
/- THE CELL 'sum', in the pinned program and in every row, IS THE sha256 OF THE DUMP (.gsa) THAT YtijmkmbepjjphaaProg.lean LOADS. Nothing in Lean hashes anything: it is a label: what it is worth is what the hold of that sum in a sandbox is worth. -/
noncomputable def Try.pinned : Pinned := { name := "ytijmkmbepjjphaa", sum := "8a9b4d7a43e60e260b2b927dbb3a2a344b9672534231f7cba7c058bc32b9bce3", checked := Try.checked }
namespace Rows
def none {H : Type} : Left H := { results := [], args := [] }

/-- 'laws.FnExactTermTidy': WHATEVER THE INPUT: true; the input reads as it did. -/
def fnExactTermTidySpec : ChangeSpec := { name := "fnExactTermTidy", fn := fun _ => fun
  | [d] => { results := [.lit (.bool true)], args := [d] }
  | _ => none }
def fnExactTermTidyRow : OpenClaim := { program := "ytijmkmbepjjphaa", sum := "8a9b4d7a43e60e260b2b927dbb3a2a344b9672534231f7cba7c058bc32b9bce3", func := "loop.example/oneletter/laws.FnExactTermTidy", spec := "fnExactTermTidy", inPlace := ["internal/bytealg.IndexByteString", "internal/bytealg.IndexString"], recurses := true, named := ["internal/bytealg.MaxLen"], apart := false }
def FnExactTermTidySaid : Prop := fnExactTermTidyRow.holds Try.pinned (OpenSpec.ofChange fnExactTermTidySpec)

/-- ITS FALSE NEIGHBOUR: 'it returns false'. Refute it at one input. -/
def fnExactTermTidyWrong : ChangeSpec := { name := "fnExactTermTidy", fn := fun _ => fun
  | [d] => { results := [.lit (.bool false)], args := [d] }
  | _ => none }
def FnExactTermTidyWrongFalsely : Prop := fnExactTermTidyRow.holds Try.pinned (OpenSpec.ofChange fnExactTermTidyWrong)

/-- 'laws.FnExactTermEmpty': WHATEVER THE INPUT: true; the input reads as it did. -/
def fnExactTermEmptySpec : ChangeSpec := { name := "fnExactTermEmpty", fn := fun _ => fun
  | [d] => { results := [.lit (.bool true)], args := [d] }
  | _ => none }
def fnExactTermEmptyRow : OpenClaim := { program := "ytijmkmbepjjphaa", sum := "8a9b4d7a43e60e260b2b927dbb3a2a344b9672534231f7cba7c058bc32b9bce3", func := "loop.example/oneletter/laws.FnExactTermEmpty", spec := "fnExactTermEmpty", inPlace := ["internal/bytealg.IndexByteString", "internal/bytealg.IndexString"], recurses := true, named := ["internal/bytealg.MaxLen"], apart := false }
def FnExactTermEmptySaid : Prop := fnExactTermEmptyRow.holds Try.pinned (OpenSpec.ofChange fnExactTermEmptySpec)

/-- ITS FALSE NEIGHBOUR: 'it returns false'. Refute it at one input. -/
def fnExactTermEmptyWrong : ChangeSpec := { name := "fnExactTermEmpty", fn := fun _ => fun
  | [d] => { results := [.lit (.bool false)], args := [d] }
  | _ => none }
def FnExactTermEmptyWrongFalsely : Prop := fnExactTermEmptyRow.holds Try.pinned (OpenSpec.ofChange fnExactTermEmptyWrong)

/-- 'laws.FnExactTermHas': WHATEVER THE INPUT: true; the input reads as it did. -/
def fnExactTermHasSpec : ChangeSpec := { name := "fnExactTermHas", fn := fun _ => fun
  | [d1, d2] => { results := [.lit (.bool true)], args := [d1, d2] }
  | _ => none }
def fnExactTermHasRow : OpenClaim := { program := "ytijmkmbepjjphaa", sum := "8a9b4d7a43e60e260b2b927dbb3a2a344b9672534231f7cba7c058bc32b9bce3", func := "loop.example/oneletter/laws.FnExactTermHas", spec := "fnExactTermHas", inPlace := ["internal/bytealg.IndexByteString", "internal/bytealg.IndexString"], recurses := true, named := ["internal/bytealg.MaxLen"], apart := false }
def FnExactTermHasSaid : Prop := fnExactTermHasRow.holds Try.pinned (OpenSpec.ofChange fnExactTermHasSpec)

/-- ITS FALSE NEIGHBOUR: 'it returns false'. Refute it at one input. -/
def fnExactTermHasWrong : ChangeSpec := { name := "fnExactTermHas", fn := fun _ => fun
  | [d1, d2] => { results := [.lit (.bool false)], args := [d1, d2] }
  | _ => none }
def FnExactTermHasWrongFalsely : Prop := fnExactTermHasRow.holds Try.pinned (OpenSpec.ofChange fnExactTermHasWrong)

/- THE SECOND FORM. 'bulk': how many values and letters a reading holds, each counted each time it is reached (what is shared counts as often as it is met; a slice's spare places count too). A statement '..UptoSaid' is the law's where the arguments, and the package variables that the reading takes, are together of bulk at most 1048576: NARROWER than '..Said'. Prove '..Said' where nothing that the law and all that it calls make is longer than what came in: it says more and counts as full. Else prove '..UptoSaid'. A law counts once. -/
mutual
def uptoBulk {H : Type} : DataW H → Nat
  | .lit (.string bytes) => bytes.length + 1
  | .lit _ => 1
  | .nil => 1
  | .ptr d => uptoBulk d + 1
  | .slice elems spare => uptoBulkAll elems + uptoBulkAll spare + 1
  | .agg parts => uptoBulkAll parts + 1
  | .iface _ d => uptoBulk d + 1
  | .map entries => uptoBulkEntries entries + 1
  | .held _ => 1
def uptoBulkAll {H : Type} : List (DataW H) → Nat
  | [] => 0
  | d :: r => uptoBulk d + uptoBulkAll r
def uptoBulkEntries {H : Type} : List (Lit × DataW H) → Nat
  | [] => 0
  | x :: r => uptoBulkEntry x + uptoBulkEntries r
def uptoBulkEntry {H : Type} : Lit × DataW H → Nat
  | (.string bytes, d) => bytes.length + uptoBulk d + 1
  | (_, d) => uptoBulk d + 1
 end
def uptoSmall : (H : Type) → List (DataW H) → Bool := fun _ ds => decide (uptoBulkAll ds ≤ 1048576)
def OpenSpec.upto (s : _root_.Go.ChangeSpec) : _root_.Go.OpenSpec := { _root_.Go.OpenSpec.ofChange s with cond := some uptoSmall }

/-- 'laws.FnExactTermTidy', WHERE WHAT IT READS IS OF BULK AT MOST 1048576: true; the input reads as it did. -/
def fnExactTermTidyUptoRow : OpenClaim := { program := "ytijmkmbepjjphaa", sum := "8a9b4d7a43e60e260b2b927dbb3a2a344b9672534231f7cba7c058bc32b9bce3", func := "loop.example/oneletter/laws.FnExactTermTidy", spec := "fnExactTermTidy", inPlace := ["internal/bytealg.IndexByteString", "internal/bytealg.IndexString"], recurses := true, named := ["internal/bytealg.MaxLen"], apart := false, narrowed := true }
def FnExactTermTidyUptoSaid : Prop := fnExactTermTidyUptoRow.holds Try.pinned (OpenSpec.upto fnExactTermTidySpec)

/-- 'laws.FnExactTermEmpty', WHERE WHAT IT READS IS OF BULK AT MOST 1048576: true; the input reads as it did. -/
def fnExactTermEmptyUptoRow : OpenClaim := { program := "ytijmkmbepjjphaa", sum := "8a9b4d7a43e60e260b2b927dbb3a2a344b9672534231f7cba7c058bc32b9bce3", func := "loop.example/oneletter/laws.FnExactTermEmpty", spec := "fnExactTermEmpty", inPlace := ["internal/bytealg.IndexByteString", "internal/bytealg.IndexString"], recurses := true, named := ["internal/bytealg.MaxLen"], apart := false, narrowed := true }
def FnExactTermEmptyUptoSaid : Prop := fnExactTermEmptyUptoRow.holds Try.pinned (OpenSpec.upto fnExactTermEmptySpec)

/-- 'laws.FnExactTermHas', WHERE WHAT IT READS IS OF BULK AT MOST 1048576: true; the input reads as it did. -/
def fnExactTermHasUptoRow : OpenClaim := { program := "ytijmkmbepjjphaa", sum := "8a9b4d7a43e60e260b2b927dbb3a2a344b9672534231f7cba7c058bc32b9bce3", func := "loop.example/oneletter/laws.FnExactTermHas", spec := "fnExactTermHas", inPlace := ["internal/bytealg.IndexByteString", "internal/bytealg.IndexString"], recurses := true, named := ["internal/bytealg.MaxLen"], apart := false, narrowed := true }
def FnExactTermHasUptoSaid : Prop := fnExactTermHasUptoRow.holds Try.pinned (OpenSpec.upto fnExactTermHasSpec)

end Rows
end Go.Proofs.Ytijmkmbepjjphaa
