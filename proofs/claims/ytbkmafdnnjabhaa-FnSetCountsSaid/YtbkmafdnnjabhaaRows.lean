/-
  No cell of these rows narrows 'for every input' (looked for: loops, veiled, ifaces, maps, wideKeys, modest, calm, conditions, laid).
  DERIVED. THE GIVEN ROWS OF THIS SEAT. 6 by the template 'for every input the law returns true; each argument reads behind the call as it read before'; 0 by the template 'total and deterministic' (their statements: YtbkmafdnnjabhaaTotals.lean).
  GIVEN WITH THE SEED: the statements are not yours to turn. If you find one false, say at which input.
  Laid BY PROGRAM, IN A SANDBOX (cutbox-rows.mjs): the forced cells as the released guide's own fill.sh prints them over the translation 43a1f95b8ac67ca1… (all of the seat's roots in one cut). By AI agents, Wed Nov 11 2026. No macro, syntax, notation, axiom, sorry.
-/
import Derived.Test.YtbkmafdnnjabhaaChecked
import GoSem.Claim
import GoSem.ClaimJoined
import GoSem.ClaimMapViews
import Derived.JoinedTies
import Derived.KernelRfl
namespace Go.Proofs.Ytbkmafdnnjabhaa
/- THE CELL 'sum', in the pinned program and in every row, IS THE sha256 OF THE DUMP (.gsa) THAT YtbkmafdnnjabhaaProg.lean LOADS. Nothing in Lean hashes anything: it is a label: what it is worth is what the hold of that sum in a sandbox is worth. -/
noncomputable def Try.pinned : Pinned := { name := "ytbkmafdnnjabhaa", sum := "43a1f95b8ac67ca1b3d2ecd90fe02bf2966b044816900a27f1c85397ca3a0241", checked := Try.checked }
namespace Rows
def none {H : Type} : Left H := { results := [], args := [] }

/-- 'laws.FnSetFrom': WHATEVER THE INPUT: true; the input reads as it did. -/
def fnSetFromSpec : ChangeSpec := { name := "fnSetFrom", fn := fun _ => fun
  | [d] => { results := [.lit (.bool true)], args := [d] }
  | _ => none }
def fnSetFromRow : OpenClaim := { program := "ytbkmafdnnjabhaa", sum := "43a1f95b8ac67ca1b3d2ecd90fe02bf2966b044816900a27f1c85397ca3a0241", func := "loop.example/oneletter/laws.FnSetFrom", spec := "fnSetFrom", inPlace := ["internal/bytealg.IndexByteString", "internal/bytealg.IndexString"], named := ["internal/bytealg.MaxLen"], apart := false }
def FnSetFromSaid : Prop := fnSetFromRow.holds Try.pinned (OpenSpec.ofChange fnSetFromSpec)

/-- ITS FALSE NEIGHBOUR: 'it returns false'. Refute it at one input. -/
def fnSetFromWrong : ChangeSpec := { name := "fnSetFrom", fn := fun _ => fun
  | [d] => { results := [.lit (.bool false)], args := [d] }
  | _ => none }
def FnSetFromWrongFalsely : Prop := fnSetFromRow.holds Try.pinned (OpenSpec.ofChange fnSetFromWrong)

/-- 'laws.FnSetEnds': WHATEVER THE INPUT: true; the input reads as it did. -/
def fnSetEndsSpec : ChangeSpec := { name := "fnSetEnds", fn := fun _ => fun
  | [d] => { results := [.lit (.bool true)], args := [d] }
  | _ => none }
def fnSetEndsRow : OpenClaim := { program := "ytbkmafdnnjabhaa", sum := "43a1f95b8ac67ca1b3d2ecd90fe02bf2966b044816900a27f1c85397ca3a0241", func := "loop.example/oneletter/laws.FnSetEnds", spec := "fnSetEnds", inPlace := ["internal/bytealg.IndexByteString", "internal/bytealg.IndexString"], named := ["internal/bytealg.MaxLen"], apart := false }
def FnSetEndsSaid : Prop := fnSetEndsRow.holds Try.pinned (OpenSpec.ofChange fnSetEndsSpec)

/-- ITS FALSE NEIGHBOUR: 'it returns false'. Refute it at one input. -/
def fnSetEndsWrong : ChangeSpec := { name := "fnSetEnds", fn := fun _ => fun
  | [d] => { results := [.lit (.bool false)], args := [d] }
  | _ => none }
def FnSetEndsWrongFalsely : Prop := fnSetEndsRow.holds Try.pinned (OpenSpec.ofChange fnSetEndsWrong)

/-- 'laws.FnSetCount': WHATEVER THE INPUT: true; the input reads as it did. -/
def fnSetCountSpec : ChangeSpec := { name := "fnSetCount", fn := fun _ => fun
  | [d] => { results := [.lit (.bool true)], args := [d] }
  | _ => none }
def fnSetCountRow : OpenClaim := { program := "ytbkmafdnnjabhaa", sum := "43a1f95b8ac67ca1b3d2ecd90fe02bf2966b044816900a27f1c85397ca3a0241", func := "loop.example/oneletter/laws.FnSetCount", spec := "fnSetCount", inPlace := ["internal/bytealg.IndexByteString", "internal/bytealg.IndexString"], named := ["internal/bytealg.MaxLen"], apart := false }
def FnSetCountSaid : Prop := fnSetCountRow.holds Try.pinned (OpenSpec.ofChange fnSetCountSpec)

/-- ITS FALSE NEIGHBOUR: 'it returns false'. Refute it at one input. -/
def fnSetCountWrong : ChangeSpec := { name := "fnSetCount", fn := fun _ => fun
  | [d] => { results := [.lit (.bool false)], args := [d] }
  | _ => none }
def FnSetCountWrongFalsely : Prop := fnSetCountRow.holds Try.pinned (OpenSpec.ofChange fnSetCountWrong)

/-- 'laws.FnSetCounts': WHATEVER THE INPUT: true; the input reads as it did. -/
def fnSetCountsSpec : ChangeSpec := { name := "fnSetCounts", fn := fun _ => fun
  | [d] => { results := [.lit (.bool true)], args := [d] }
  | _ => none }
def fnSetCountsRow : OpenClaim := { program := "ytbkmafdnnjabhaa", sum := "43a1f95b8ac67ca1b3d2ecd90fe02bf2966b044816900a27f1c85397ca3a0241", func := "loop.example/oneletter/laws.FnSetCounts", spec := "fnSetCounts", inPlace := ["internal/bytealg.IndexByteString", "internal/bytealg.IndexString"], named := ["internal/bytealg.MaxLen"], apart := false }
def FnSetCountsSaid : Prop := fnSetCountsRow.holds Try.pinned (OpenSpec.ofChange fnSetCountsSpec)

/-- ITS FALSE NEIGHBOUR: 'it returns false'. Refute it at one input. -/
def fnSetCountsWrong : ChangeSpec := { name := "fnSetCounts", fn := fun _ => fun
  | [d] => { results := [.lit (.bool false)], args := [d] }
  | _ => none }
def FnSetCountsWrongFalsely : Prop := fnSetCountsRow.holds Try.pinned (OpenSpec.ofChange fnSetCountsWrong)

/-- 'laws.FnSetList': WHATEVER THE INPUT: true; the input reads as it did. -/
def fnSetListSpec : ChangeSpec := { name := "fnSetList", fn := fun _ => fun
  | [d] => { results := [.lit (.bool true)], args := [d] }
  | _ => none }
def fnSetListRow : OpenClaim := { program := "ytbkmafdnnjabhaa", sum := "43a1f95b8ac67ca1b3d2ecd90fe02bf2966b044816900a27f1c85397ca3a0241", func := "loop.example/oneletter/laws.FnSetList", spec := "fnSetList", inPlace := ["internal/bytealg.IndexByteString", "internal/bytealg.IndexString"], named := ["internal/bytealg.MaxLen"], apart := false }
def FnSetListSaid : Prop := fnSetListRow.holds Try.pinned (OpenSpec.ofChange fnSetListSpec)

/-- ITS FALSE NEIGHBOUR: 'it returns false'. Refute it at one input. -/
def fnSetListWrong : ChangeSpec := { name := "fnSetList", fn := fun _ => fun
  | [d] => { results := [.lit (.bool false)], args := [d] }
  | _ => none }
def FnSetListWrongFalsely : Prop := fnSetListRow.holds Try.pinned (OpenSpec.ofChange fnSetListWrong)

/-- 'laws.FnSetBelow': WHATEVER THE INPUT: true; the input reads as it did. -/
def fnSetBelowSpec : ChangeSpec := { name := "fnSetBelow", fn := fun _ => fun
  | [d] => { results := [.lit (.bool true)], args := [d] }
  | _ => none }
def fnSetBelowRow : OpenClaim := { program := "ytbkmafdnnjabhaa", sum := "43a1f95b8ac67ca1b3d2ecd90fe02bf2966b044816900a27f1c85397ca3a0241", func := "loop.example/oneletter/laws.FnSetBelow", spec := "fnSetBelow", inPlace := ["internal/bytealg.IndexByteString", "internal/bytealg.IndexString"], named := ["internal/bytealg.MaxLen"], apart := false }
def FnSetBelowSaid : Prop := fnSetBelowRow.holds Try.pinned (OpenSpec.ofChange fnSetBelowSpec)

/-- ITS FALSE NEIGHBOUR: 'it returns false'. Refute it at one input. -/
def fnSetBelowWrong : ChangeSpec := { name := "fnSetBelow", fn := fun _ => fun
  | [d] => { results := [.lit (.bool false)], args := [d] }
  | _ => none }
def FnSetBelowWrongFalsely : Prop := fnSetBelowRow.holds Try.pinned (OpenSpec.ofChange fnSetBelowWrong)

/- THE SECOND FORM. 'bulk': how many values and letters a reading holds, each counted each time it is reached (what is shared counts as often as it is met; a slice's spare places count too). A statement '..UptoSaid' is the law's where the arguments, and the package variables that the reading takes, are together of bulk at most 1048576: NARROWER than '..Said'. Prove '..Said' where nothing that the law and all that it calls make is longer than what came in: it says more and counts as full. Else prove '..UptoSaid'. A law counts once. -/
mutual
def uptoBulk {H : Type} : DataW H → Nat
  | .lit (.string bytes) => bytes.length + 1
  | .lit _ => 1
  | .nil => 1
  | .ptr d => uptoBulk d + 1
  | .slice elems spare => uptoBulkAll elems + uptoBulkAll spare + 1
  | .agg parts => uptoBulkAll parts + 1
  | .iface _ d => uptoBulk d + 1
  | .map entries => uptoBulkEntries entries + 1
  | .held _ => 1
def uptoBulkAll {H : Type} : List (DataW H) → Nat
  | [] => 0
  | d :: r => uptoBulk d + uptoBulkAll r
def uptoBulkEntries {H : Type} : List (Lit × DataW H) → Nat
  | [] => 0
  | x :: r => uptoBulkEntry x + uptoBulkEntries r
def uptoBulkEntry {H : Type} : Lit × DataW H → Nat
  | (.string bytes, d) => bytes.length + uptoBulk d + 1
  | (_, d) => uptoBulk d + 1
 end
def uptoSmall : (H : Type) → List (DataW H) → Bool := fun _ ds => decide (uptoBulkAll ds ≤ 1048576)
def OpenSpec.upto (s : _root_.Go.ChangeSpec) : _root_.Go.OpenSpec := { _root_.Go.OpenSpec.ofChange s with cond := some uptoSmall }

/-- 'laws.FnSetFrom', WHERE WHAT IT READS IS OF BULK AT MOST 1048576: true; the input reads as it did. -/
def fnSetFromUptoRow : OpenClaim := { program := "ytbkmafdnnjabhaa", sum := "43a1f95b8ac67ca1b3d2ecd90fe02bf2966b044816900a27f1c85397ca3a0241", func := "loop.example/oneletter/laws.FnSetFrom", spec := "fnSetFrom", inPlace := ["internal/bytealg.IndexByteString", "internal/bytealg.IndexString"], named := ["internal/bytealg.MaxLen"], apart := false, narrowed := true }
def FnSetFromUptoSaid : Prop := fnSetFromUptoRow.holds Try.pinned (OpenSpec.upto fnSetFromSpec)

/-- 'laws.FnSetEnds', WHERE WHAT IT READS IS OF BULK AT MOST 1048576: true; the input reads as it did. -/
def fnSetEndsUptoRow : OpenClaim := { program := "ytbkmafdnnjabhaa", sum := "43a1f95b8ac67ca1b3d2ecd90fe02bf2966b044816900a27f1c85397ca3a0241", func := "loop.example/oneletter/laws.FnSetEnds", spec := "fnSetEnds", inPlace := ["internal/bytealg.IndexByteString", "internal/bytealg.IndexString"], named := ["internal/bytealg.MaxLen"], apart := false, narrowed := true }
def FnSetEndsUptoSaid : Prop := fnSetEndsUptoRow.holds Try.pinned (OpenSpec.upto fnSetEndsSpec)

/-- 'laws.FnSetCount', WHERE WHAT IT READS IS OF BULK AT MOST 1048576: true; the input reads as it did. -/
def fnSetCountUptoRow : OpenClaim := { program := "ytbkmafdnnjabhaa", sum := "43a1f95b8ac67ca1b3d2ecd90fe02bf2966b044816900a27f1c85397ca3a0241", func := "loop.example/oneletter/laws.FnSetCount", spec := "fnSetCount", inPlace := ["internal/bytealg.IndexByteString", "internal/bytealg.IndexString"], named := ["internal/bytealg.MaxLen"], apart := false, narrowed := true }
def FnSetCountUptoSaid : Prop := fnSetCountUptoRow.holds Try.pinned (OpenSpec.upto fnSetCountSpec)

/-- 'laws.FnSetCounts', WHERE WHAT IT READS IS OF BULK AT MOST 1048576: true; the input reads as it did. -/
def fnSetCountsUptoRow : OpenClaim := { program := "ytbkmafdnnjabhaa", sum := "43a1f95b8ac67ca1b3d2ecd90fe02bf2966b044816900a27f1c85397ca3a0241", func := "loop.example/oneletter/laws.FnSetCounts", spec := "fnSetCounts", inPlace := ["internal/bytealg.IndexByteString", "internal/bytealg.IndexString"], named := ["internal/bytealg.MaxLen"], apart := false, narrowed := true }
def FnSetCountsUptoSaid : Prop := fnSetCountsUptoRow.holds Try.pinned (OpenSpec.upto fnSetCountsSpec)

/-- 'laws.FnSetList', WHERE WHAT IT READS IS OF BULK AT MOST 1048576: true; the input reads as it did. -/
def fnSetListUptoRow : OpenClaim := { program := "ytbkmafdnnjabhaa", sum := "43a1f95b8ac67ca1b3d2ecd90fe02bf2966b044816900a27f1c85397ca3a0241", func := "loop.example/oneletter/laws.FnSetList", spec := "fnSetList", inPlace := ["internal/bytealg.IndexByteString", "internal/bytealg.IndexString"], named := ["internal/bytealg.MaxLen"], apart := false, narrowed := true }
def FnSetListUptoSaid : Prop := fnSetListUptoRow.holds Try.pinned (OpenSpec.upto fnSetListSpec)

/-- 'laws.FnSetBelow', WHERE WHAT IT READS IS OF BULK AT MOST 1048576: true; the input reads as it did. -/
def fnSetBelowUptoRow : OpenClaim := { program := "ytbkmafdnnjabhaa", sum := "43a1f95b8ac67ca1b3d2ecd90fe02bf2966b044816900a27f1c85397ca3a0241", func := "loop.example/oneletter/laws.FnSetBelow", spec := "fnSetBelow", inPlace := ["internal/bytealg.IndexByteString", "internal/bytealg.IndexString"], named := ["internal/bytealg.MaxLen"], apart := false, narrowed := true }
def FnSetBelowUptoSaid : Prop := fnSetBelowUptoRow.holds Try.pinned (OpenSpec.upto fnSetBelowSpec)

end Rows
end Go.Proofs.Ytbkmafdnnjabhaa
