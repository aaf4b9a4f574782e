/-
  No cell of these rows narrows 'for every input' (looked for: loops, veiled, ifaces, maps, wideKeys, modest, calm, conditions, laid).
  DERIVED. THE GIVEN ROWS OF THIS SEAT. 7 by the template 'for every input the law returns true; each argument reads behind the call as it read before'; 0 by the template 'total and deterministic' (their statements: YthffkehkjgnalaaTotals.lean).
  GIVEN WITH THE SEED: the statements are not yours to turn. If you find one false, say at which input.
  Laid BY PROGRAM, IN A SANDBOX (cutbox-rows.mjs): the forced cells as the released guide's own fill.sh prints them over the translation b7adfe45d6e1c6ba… (all of the seat's roots in one cut). By AI agents, Wed Nov 11 2026. No macro, syntax, notation, axiom, sorry.
-/
import Derived.Test.YthffkehkjgnalaaChecked
import GoSem.Claim
import GoSem.ClaimJoined
import GoSem.ClaimMapViews
import Derived.JoinedTies
import Derived.KernelRfl
namespace Go.Proofs.Ythffkehkjgnalaa
/- THE CELL 'sum', in the pinned program and in every row, IS THE sha256 OF THE DUMP (.gsa) THAT YthffkehkjgnalaaProg.lean LOADS. Nothing in Lean hashes anything: it is a label: what it is worth is what the hold of that sum in a sandbox is worth. -/
noncomputable def Try.pinned : Pinned := { name := "ythffkehkjgnalaa", sum := "b7adfe45d6e1c6baa0ab93f005d28e416b045c9ed8a8a3b8d0c390f7379add79", checked := Try.checked }
namespace Rows
def none {H : Type} : Left H := { results := [], args := [] }

/-- 'laws.FnExactSetIn': WHATEVER THE INPUT: true; the input reads as it did. -/
def fnExactSetInSpec : ChangeSpec := { name := "fnExactSetIn", fn := fun _ => fun
  | [d] => { results := [.lit (.bool true)], args := [d] }
  | _ => none }
def fnExactSetInRow : OpenClaim := { program := "ythffkehkjgnalaa", sum := "b7adfe45d6e1c6baa0ab93f005d28e416b045c9ed8a8a3b8d0c390f7379add79", func := "loop.example/oneletter/laws.FnExactSetIn", spec := "fnExactSetIn", inPlace := ["internal/bytealg.IndexByteString", "internal/bytealg.IndexString"], named := ["internal/bytealg.MaxLen"], apart := false }
def FnExactSetInSaid : Prop := fnExactSetInRow.holds Try.pinned (OpenSpec.ofChange fnExactSetInSpec)

/-- ITS FALSE NEIGHBOUR: 'it returns false'. Refute it at one input. -/
def fnExactSetInWrong : ChangeSpec := { name := "fnExactSetIn", fn := fun _ => fun
  | [d] => { results := [.lit (.bool false)], args := [d] }
  | _ => none }
def FnExactSetInWrongFalsely : Prop := fnExactSetInRow.holds Try.pinned (OpenSpec.ofChange fnExactSetInWrong)

/-- 'laws.FnExactSetHas': WHATEVER THE INPUT: true; the input reads as it did. -/
def fnExactSetHasSpec : ChangeSpec := { name := "fnExactSetHas", fn := fun _ => fun
  | [d1, d2] => { results := [.lit (.bool true)], args := [d1, d2] }
  | _ => none }
def fnExactSetHasRow : OpenClaim := { program := "ythffkehkjgnalaa", sum := "b7adfe45d6e1c6baa0ab93f005d28e416b045c9ed8a8a3b8d0c390f7379add79", func := "loop.example/oneletter/laws.FnExactSetHas", spec := "fnExactSetHas", inPlace := ["internal/bytealg.IndexByteString", "internal/bytealg.IndexString"], named := ["internal/bytealg.MaxLen"], apart := false }
def FnExactSetHasSaid : Prop := fnExactSetHasRow.holds Try.pinned (OpenSpec.ofChange fnExactSetHasSpec)

/-- ITS FALSE NEIGHBOUR: 'it returns false'. Refute it at one input. -/
def fnExactSetHasWrong : ChangeSpec := { name := "fnExactSetHas", fn := fun _ => fun
  | [d1, d2] => { results := [.lit (.bool false)], args := [d1, d2] }
  | _ => none }
def FnExactSetHasWrongFalsely : Prop := fnExactSetHasRow.holds Try.pinned (OpenSpec.ofChange fnExactSetHasWrong)

/-- 'laws.FnExactSetEnds': WHATEVER THE INPUT: true; the input reads as it did. -/
def fnExactSetEndsSpec : ChangeSpec := { name := "fnExactSetEnds", fn := fun _ => fun
  | [d] => { results := [.lit (.bool true)], args := [d] }
  | _ => none }
def fnExactSetEndsRow : OpenClaim := { program := "ythffkehkjgnalaa", sum := "b7adfe45d6e1c6baa0ab93f005d28e416b045c9ed8a8a3b8d0c390f7379add79", func := "loop.example/oneletter/laws.FnExactSetEnds", spec := "fnExactSetEnds", inPlace := ["internal/bytealg.IndexByteString", "internal/bytealg.IndexString"], named := ["internal/bytealg.MaxLen"], apart := false }
def FnExactSetEndsSaid : Prop := fnExactSetEndsRow.holds Try.pinned (OpenSpec.ofChange fnExactSetEndsSpec)

/-- ITS FALSE NEIGHBOUR: 'it returns false'. Refute it at one input. -/
def fnExactSetEndsWrong : ChangeSpec := { name := "fnExactSetEnds", fn := fun _ => fun
  | [d] => { results := [.lit (.bool false)], args := [d] }
  | _ => none }
def FnExactSetEndsWrongFalsely : Prop := fnExactSetEndsRow.holds Try.pinned (OpenSpec.ofChange fnExactSetEndsWrong)

/-- 'laws.FnExactSetFrom': WHATEVER THE INPUT: true; the input reads as it did. -/
def fnExactSetFromSpec : ChangeSpec := { name := "fnExactSetFrom", fn := fun _ => fun
  | [d1, d2] => { results := [.lit (.bool true)], args := [d1, d2] }
  | _ => none }
def fnExactSetFromRow : OpenClaim := { program := "ythffkehkjgnalaa", sum := "b7adfe45d6e1c6baa0ab93f005d28e416b045c9ed8a8a3b8d0c390f7379add79", func := "loop.example/oneletter/laws.FnExactSetFrom", spec := "fnExactSetFrom", inPlace := ["internal/bytealg.IndexByteString", "internal/bytealg.IndexString"], named := ["internal/bytealg.MaxLen"], apart := false }
def FnExactSetFromSaid : Prop := fnExactSetFromRow.holds Try.pinned (OpenSpec.ofChange fnExactSetFromSpec)

/-- ITS FALSE NEIGHBOUR: 'it returns false'. Refute it at one input. -/
def fnExactSetFromWrong : ChangeSpec := { name := "fnExactSetFrom", fn := fun _ => fun
  | [d1, d2] => { results := [.lit (.bool false)], args := [d1, d2] }
  | _ => none }
def FnExactSetFromWrongFalsely : Prop := fnExactSetFromRow.holds Try.pinned (OpenSpec.ofChange fnExactSetFromWrong)

/-- 'laws.FnExactSetCount': WHATEVER THE INPUT: true; the input reads as it did. -/
def fnExactSetCountSpec : ChangeSpec := { name := "fnExactSetCount", fn := fun _ => fun
  | [d1, d2] => { results := [.lit (.bool true)], args := [d1, d2] }
  | _ => none }
def fnExactSetCountRow : OpenClaim := { program := "ythffkehkjgnalaa", sum := "b7adfe45d6e1c6baa0ab93f005d28e416b045c9ed8a8a3b8d0c390f7379add79", func := "loop.example/oneletter/laws.FnExactSetCount", spec := "fnExactSetCount", inPlace := ["internal/bytealg.IndexByteString", "internal/bytealg.IndexString"], named := ["internal/bytealg.MaxLen"], apart := false }
def FnExactSetCountSaid : Prop := fnExactSetCountRow.holds Try.pinned (OpenSpec.ofChange fnExactSetCountSpec)

/-- ITS FALSE NEIGHBOUR: 'it returns false'. Refute it at one input. -/
def fnExactSetCountWrong : ChangeSpec := { name := "fnExactSetCount", fn := fun _ => fun
  | [d1, d2] => { results := [.lit (.bool false)], args := [d1, d2] }
  | _ => none }
def FnExactSetCountWrongFalsely : Prop := fnExactSetCountRow.holds Try.pinned (OpenSpec.ofChange fnExactSetCountWrong)

/-- 'laws.FnExactSetList': WHATEVER THE INPUT: true; the input reads as it did. -/
def fnExactSetListSpec : ChangeSpec := { name := "fnExactSetList", fn := fun _ => fun
  | [d1, d2] => { results := [.lit (.bool true)], args := [d1, d2] }
  | _ => none }
def fnExactSetListRow : OpenClaim := { program := "ythffkehkjgnalaa", sum := "b7adfe45d6e1c6baa0ab93f005d28e416b045c9ed8a8a3b8d0c390f7379add79", func := "loop.example/oneletter/laws.FnExactSetList", spec := "fnExactSetList", inPlace := ["internal/bytealg.IndexByteString", "internal/bytealg.IndexString"], named := ["internal/bytealg.MaxLen"], apart := false }
def FnExactSetListSaid : Prop := fnExactSetListRow.holds Try.pinned (OpenSpec.ofChange fnExactSetListSpec)

/-- ITS FALSE NEIGHBOUR: 'it returns false'. Refute it at one input. -/
def fnExactSetListWrong : ChangeSpec := { name := "fnExactSetList", fn := fun _ => fun
  | [d1, d2] => { results := [.lit (.bool false)], args := [d1, d2] }
  | _ => none }
def FnExactSetListWrongFalsely : Prop := fnExactSetListRow.holds Try.pinned (OpenSpec.ofChange fnExactSetListWrong)

/-- 'laws.FnExactSetBelow': WHATEVER THE INPUT: true; the input reads as it did. -/
def fnExactSetBelowSpec : ChangeSpec := { name := "fnExactSetBelow", fn := fun _ => fun
  | [d1, d2] => { results := [.lit (.bool true)], args := [d1, d2] }
  | _ => none }
def fnExactSetBelowRow : OpenClaim := { program := "ythffkehkjgnalaa", sum := "b7adfe45d6e1c6baa0ab93f005d28e416b045c9ed8a8a3b8d0c390f7379add79", func := "loop.example/oneletter/laws.FnExactSetBelow", spec := "fnExactSetBelow", inPlace := ["internal/bytealg.IndexByteString", "internal/bytealg.IndexString"], named := ["internal/bytealg.MaxLen"], apart := false }
def FnExactSetBelowSaid : Prop := fnExactSetBelowRow.holds Try.pinned (OpenSpec.ofChange fnExactSetBelowSpec)

/-- ITS FALSE NEIGHBOUR: 'it returns false'. Refute it at one input. -/
def fnExactSetBelowWrong : ChangeSpec := { name := "fnExactSetBelow", fn := fun _ => fun
  | [d1, d2] => { results := [.lit (.bool false)], args := [d1, d2] }
  | _ => none }
def FnExactSetBelowWrongFalsely : Prop := fnExactSetBelowRow.holds Try.pinned (OpenSpec.ofChange fnExactSetBelowWrong)

/- THE SECOND FORM. 'bulk': how many values and letters a reading holds, each counted each time it is reached (what is shared counts as often as it is met; a slice's spare places count too). A statement '..UptoSaid' is the law's where the arguments, and the package variables that the reading takes, are together of bulk at most 1048576: NARROWER than '..Said'. Prove '..Said' where nothing that the law and all that it calls make is longer than what came in: it says more and counts as full. Else prove '..UptoSaid'. A law counts once. -/
mutual
def uptoBulk {H : Type} : DataW H → Nat
  | .lit (.string bytes) => bytes.length + 1
  | .lit _ => 1
  | .nil => 1
  | .ptr d => uptoBulk d + 1
  | .slice elems spare => uptoBulkAll elems + uptoBulkAll spare + 1
  | .agg parts => uptoBulkAll parts + 1
  | .iface _ d => uptoBulk d + 1
  | .map entries => uptoBulkEntries entries + 1
  | .held _ => 1
def uptoBulkAll {H : Type} : List (DataW H) → Nat
  | [] => 0
  | d :: r => uptoBulk d + uptoBulkAll r
def uptoBulkEntries {H : Type} : List (Lit × DataW H) → Nat
  | [] => 0
  | x :: r => uptoBulkEntry x + uptoBulkEntries r
def uptoBulkEntry {H : Type} : Lit × DataW H → Nat
  | (.string bytes, d) => bytes.length + uptoBulk d + 1
  | (_, d) => uptoBulk d + 1
 end
def uptoSmall : (H : Type) → List (DataW H) → Bool := fun _ ds => decide (uptoBulkAll ds ≤ 1048576)
def OpenSpec.upto (s : _root_.Go.ChangeSpec) : _root_.Go.OpenSpec := { _root_.Go.OpenSpec.ofChange s with cond := some uptoSmall }

/-- 'laws.FnExactSetIn', WHERE WHAT IT READS IS OF BULK AT MOST 1048576: true; the input reads as it did. -/
def fnExactSetInUptoRow : OpenClaim := { program := "ythffkehkjgnalaa", sum := "b7adfe45d6e1c6baa0ab93f005d28e416b045c9ed8a8a3b8d0c390f7379add79", func := "loop.example/oneletter/laws.FnExactSetIn", spec := "fnExactSetIn", inPlace := ["internal/bytealg.IndexByteString", "internal/bytealg.IndexString"], named := ["internal/bytealg.MaxLen"], apart := false, narrowed := true }
def FnExactSetInUptoSaid : Prop := fnExactSetInUptoRow.holds Try.pinned (OpenSpec.upto fnExactSetInSpec)

/-- 'laws.FnExactSetHas', WHERE WHAT IT READS IS OF BULK AT MOST 1048576: true; the input reads as it did. -/
def fnExactSetHasUptoRow : OpenClaim := { program := "ythffkehkjgnalaa", sum := "b7adfe45d6e1c6baa0ab93f005d28e416b045c9ed8a8a3b8d0c390f7379add79", func := "loop.example/oneletter/laws.FnExactSetHas", spec := "fnExactSetHas", inPlace := ["internal/bytealg.IndexByteString", "internal/bytealg.IndexString"], named := ["internal/bytealg.MaxLen"], apart := false, narrowed := true }
def FnExactSetHasUptoSaid : Prop := fnExactSetHasUptoRow.holds Try.pinned (OpenSpec.upto fnExactSetHasSpec)

/-- 'laws.FnExactSetEnds', WHERE WHAT IT READS IS OF BULK AT MOST 1048576: true; the input reads as it did. -/
def fnExactSetEndsUptoRow : OpenClaim := { program := "ythffkehkjgnalaa", sum := "b7adfe45d6e1c6baa0ab93f005d28e416b045c9ed8a8a3b8d0c390f7379add79", func := "loop.example/oneletter/laws.FnExactSetEnds", spec := "fnExactSetEnds", inPlace := ["internal/bytealg.IndexByteString", "internal/bytealg.IndexString"], named := ["internal/bytealg.MaxLen"], apart := false, narrowed := true }
def FnExactSetEndsUptoSaid : Prop := fnExactSetEndsUptoRow.holds Try.pinned (OpenSpec.upto fnExactSetEndsSpec)

/-- 'laws.FnExactSetFrom', WHERE WHAT IT READS IS OF BULK AT MOST 1048576: true; the input reads as it did. -/
def fnExactSetFromUptoRow : OpenClaim := { program := "ythffkehkjgnalaa", sum := "b7adfe45d6e1c6baa0ab93f005d28e416b045c9ed8a8a3b8d0c390f7379add79", func := "loop.example/oneletter/laws.FnExactSetFrom", spec := "fnExactSetFrom", inPlace := ["internal/bytealg.IndexByteString", "internal/bytealg.IndexString"], named := ["internal/bytealg.MaxLen"], apart := false, narrowed := true }
def FnExactSetFromUptoSaid : Prop := fnExactSetFromUptoRow.holds Try.pinned (OpenSpec.upto fnExactSetFromSpec)

/-- 'laws.FnExactSetCount', WHERE WHAT IT READS IS OF BULK AT MOST 1048576: true; the input reads as it did. -/
def fnExactSetCountUptoRow : OpenClaim := { program := "ythffkehkjgnalaa", sum := "b7adfe45d6e1c6baa0ab93f005d28e416b045c9ed8a8a3b8d0c390f7379add79", func := "loop.example/oneletter/laws.FnExactSetCount", spec := "fnExactSetCount", inPlace := ["internal/bytealg.IndexByteString", "internal/bytealg.IndexString"], named := ["internal/bytealg.MaxLen"], apart := false, narrowed := true }
def FnExactSetCountUptoSaid : Prop := fnExactSetCountUptoRow.holds Try.pinned (OpenSpec.upto fnExactSetCountSpec)

/-- 'laws.FnExactSetList', WHERE WHAT IT READS IS OF BULK AT MOST 1048576: true; the input reads as it did. -/
def fnExactSetListUptoRow : OpenClaim := { program := "ythffkehkjgnalaa", sum := "b7adfe45d6e1c6baa0ab93f005d28e416b045c9ed8a8a3b8d0c390f7379add79", func := "loop.example/oneletter/laws.FnExactSetList", spec := "fnExactSetList", inPlace := ["internal/bytealg.IndexByteString", "internal/bytealg.IndexString"], named := ["internal/bytealg.MaxLen"], apart := false, narrowed := true }
def FnExactSetListUptoSaid : Prop := fnExactSetListUptoRow.holds Try.pinned (OpenSpec.upto fnExactSetListSpec)

/-- 'laws.FnExactSetBelow', WHERE WHAT IT READS IS OF BULK AT MOST 1048576: true; the input reads as it did. -/
def fnExactSetBelowUptoRow : OpenClaim := { program := "ythffkehkjgnalaa", sum := "b7adfe45d6e1c6baa0ab93f005d28e416b045c9ed8a8a3b8d0c390f7379add79", func := "loop.example/oneletter/laws.FnExactSetBelow", spec := "fnExactSetBelow", inPlace := ["internal/bytealg.IndexByteString", "internal/bytealg.IndexString"], named := ["internal/bytealg.MaxLen"], apart := false, narrowed := true }
def FnExactSetBelowUptoSaid : Prop := fnExactSetBelowUptoRow.holds Try.pinned (OpenSpec.upto fnExactSetBelowSpec)

end Rows
end Go.Proofs.Ythffkehkjgnalaa
