/-
  No cell of these rows narrows 'for every input' (looked for: loops, veiled, ifaces, maps, wideKeys, modest, calm, conditions, laid).
  DERIVED. THE GIVEN ROWS OF THIS SEAT. 12 by the template 'for every input the law returns true; each argument reads behind the call as it read before'; 0 by the template 'total and deterministic' (their statements: YtdbkpmhdjdebhaaTotals.lean).
  GIVEN WITH THE SEED: the statements are not yours to turn. If you find one false, say at which input.
  Laid BY PROGRAM, IN A SANDBOX (cutbox-rows.mjs): the forced cells as the released guide's own fill.sh prints them over the translation 1ecb3e581357abea… (all of the seat's roots in one cut). By AI agents, Wed Nov 11 2026. No macro, syntax, notation, axiom, sorry.
-/
import Derived.Test.YtdbkpmhdjdebhaaChecked
import GoSem.Claim
import GoSem.ClaimJoined
import GoSem.ClaimMapViews
import Derived.JoinedTies
import Derived.KernelRfl
namespace Go.Proofs.Ytdbkpmhdjdebhaa
/- THE CELL 'sum', in the pinned program and in every row, IS THE sha256 OF THE DUMP (.gsa) THAT YtdbkpmhdjdebhaaProg.lean LOADS. Nothing in Lean hashes anything: it is a label: what it is worth is what the hold of that sum in a sandbox is worth. -/
noncomputable def Try.pinned : Pinned := { name := "ytdbkpmhdjdebhaa", sum := "1ecb3e581357abea5cca1ce4f324353f6c4f2fe06978172b1abb244e934f7e85", checked := Try.checked }
namespace Rows
def none {H : Type} : Left H := { results := [], args := [] }

/-- 'laws.FnExactMachIn': WHATEVER THE INPUT: true; the input reads as it did. -/
def fnExactMachInSpec : ChangeSpec := { name := "fnExactMachIn", fn := fun _ => fun
  | [d] => { results := [.lit (.bool true)], args := [d] }
  | _ => none }
def fnExactMachInRow : OpenClaim := { program := "ytdbkpmhdjdebhaa", sum := "1ecb3e581357abea5cca1ce4f324353f6c4f2fe06978172b1abb244e934f7e85", func := "loop.example/oneletter/laws.FnExactMachIn", spec := "fnExactMachIn", unfollowed := true, recurses := true, apart := false }
def FnExactMachInSaid : Prop := fnExactMachInRow.holds Try.pinned (OpenSpec.ofChange fnExactMachInSpec)

/-- ITS FALSE NEIGHBOUR: 'it returns false'. Refute it at one input. -/
def fnExactMachInWrong : ChangeSpec := { name := "fnExactMachIn", fn := fun _ => fun
  | [d] => { results := [.lit (.bool false)], args := [d] }
  | _ => none }
def FnExactMachInWrongFalsely : Prop := fnExactMachInRow.holds Try.pinned (OpenSpec.ofChange fnExactMachInWrong)

/-- 'laws.FnMachIn': WHATEVER THE INPUT: true; the input reads as it did. -/
def fnMachInSpec : ChangeSpec := { name := "fnMachIn", fn := fun _ => fun
  | [d] => { results := [.lit (.bool true)], args := [d] }
  | _ => none }
def fnMachInRow : OpenClaim := { program := "ytdbkpmhdjdebhaa", sum := "1ecb3e581357abea5cca1ce4f324353f6c4f2fe06978172b1abb244e934f7e85", func := "loop.example/oneletter/laws.FnMachIn", spec := "fnMachIn", unfollowed := true, recurses := true, apart := false }
def FnMachInSaid : Prop := fnMachInRow.holds Try.pinned (OpenSpec.ofChange fnMachInSpec)

/-- ITS FALSE NEIGHBOUR: 'it returns false'. Refute it at one input. -/
def fnMachInWrong : ChangeSpec := { name := "fnMachIn", fn := fun _ => fun
  | [d] => { results := [.lit (.bool false)], args := [d] }
  | _ => none }
def FnMachInWrongFalsely : Prop := fnMachInRow.holds Try.pinned (OpenSpec.ofChange fnMachInWrong)

/-- 'laws.FnMachAt': WHATEVER THE INPUT: true; the input reads as it did. -/
def fnMachAtSpec : ChangeSpec := { name := "fnMachAt", fn := fun _ => fun
  | [d] => { results := [.lit (.bool true)], args := [d] }
  | _ => none }
def fnMachAtRow : OpenClaim := { program := "ytdbkpmhdjdebhaa", sum := "1ecb3e581357abea5cca1ce4f324353f6c4f2fe06978172b1abb244e934f7e85", func := "loop.example/oneletter/laws.FnMachAt", spec := "fnMachAt", unfollowed := true, recurses := true, apart := false }
def FnMachAtSaid : Prop := fnMachAtRow.holds Try.pinned (OpenSpec.ofChange fnMachAtSpec)

/-- ITS FALSE NEIGHBOUR: 'it returns false'. Refute it at one input. -/
def fnMachAtWrong : ChangeSpec := { name := "fnMachAt", fn := fun _ => fun
  | [d] => { results := [.lit (.bool false)], args := [d] }
  | _ => none }
def FnMachAtWrongFalsely : Prop := fnMachAtRow.holds Try.pinned (OpenSpec.ofChange fnMachAtWrong)

/-- 'laws.FnMachTakes': WHATEVER THE INPUT: true; the input reads as it did. -/
def fnMachTakesSpec : ChangeSpec := { name := "fnMachTakes", fn := fun _ => fun
  | [d] => { results := [.lit (.bool true)], args := [d] }
  | _ => none }
def fnMachTakesRow : OpenClaim := { program := "ytdbkpmhdjdebhaa", sum := "1ecb3e581357abea5cca1ce4f324353f6c4f2fe06978172b1abb244e934f7e85", func := "loop.example/oneletter/laws.FnMachTakes", spec := "fnMachTakes", unfollowed := true, recurses := true, apart := false }
def FnMachTakesSaid : Prop := fnMachTakesRow.holds Try.pinned (OpenSpec.ofChange fnMachTakesSpec)

/-- ITS FALSE NEIGHBOUR: 'it returns false'. Refute it at one input. -/
def fnMachTakesWrong : ChangeSpec := { name := "fnMachTakes", fn := fun _ => fun
  | [d] => { results := [.lit (.bool false)], args := [d] }
  | _ => none }
def FnMachTakesWrongFalsely : Prop := fnMachTakesRow.holds Try.pinned (OpenSpec.ofChange fnMachTakesWrong)

/-- 'laws.FnExactMachAt': WHATEVER THE INPUT: true; the input reads as it did. -/
def fnExactMachAtSpec : ChangeSpec := { name := "fnExactMachAt", fn := fun _ => fun
  | [d1, d2] => { results := [.lit (.bool true)], args := [d1, d2] }
  | _ => none }
def fnExactMachAtRow : OpenClaim := { program := "ytdbkpmhdjdebhaa", sum := "1ecb3e581357abea5cca1ce4f324353f6c4f2fe06978172b1abb244e934f7e85", func := "loop.example/oneletter/laws.FnExactMachAt", spec := "fnExactMachAt", unfollowed := true, recurses := true, apart := false }
def FnExactMachAtSaid : Prop := fnExactMachAtRow.holds Try.pinned (OpenSpec.ofChange fnExactMachAtSpec)

/-- ITS FALSE NEIGHBOUR: 'it returns false'. Refute it at one input. -/
def fnExactMachAtWrong : ChangeSpec := { name := "fnExactMachAt", fn := fun _ => fun
  | [d1, d2] => { results := [.lit (.bool false)], args := [d1, d2] }
  | _ => none }
def FnExactMachAtWrongFalsely : Prop := fnExactMachAtRow.holds Try.pinned (OpenSpec.ofChange fnExactMachAtWrong)

/-- 'laws.FnExactMachTakes': WHATEVER THE INPUT: true; the input reads as it did. -/
def fnExactMachTakesSpec : ChangeSpec := { name := "fnExactMachTakes", fn := fun _ => fun
  | [d1, d2] => { results := [.lit (.bool true)], args := [d1, d2] }
  | _ => none }
def fnExactMachTakesRow : OpenClaim := { program := "ytdbkpmhdjdebhaa", sum := "1ecb3e581357abea5cca1ce4f324353f6c4f2fe06978172b1abb244e934f7e85", func := "loop.example/oneletter/laws.FnExactMachTakes", spec := "fnExactMachTakes", unfollowed := true, recurses := true, apart := false }
def FnExactMachTakesSaid : Prop := fnExactMachTakesRow.holds Try.pinned (OpenSpec.ofChange fnExactMachTakesSpec)

/-- ITS FALSE NEIGHBOUR: 'it returns false'. Refute it at one input. -/
def fnExactMachTakesWrong : ChangeSpec := { name := "fnExactMachTakes", fn := fun _ => fun
  | [d1, d2] => { results := [.lit (.bool false)], args := [d1, d2] }
  | _ => none }
def FnExactMachTakesWrongFalsely : Prop := fnExactMachTakesRow.holds Try.pinned (OpenSpec.ofChange fnExactMachTakesWrong)

/-- 'laws.FnExactMachTurn': WHATEVER THE INPUT: true; the input reads as it did. -/
def fnExactMachTurnSpec : ChangeSpec := { name := "fnExactMachTurn", fn := fun _ => fun
  | [d] => { results := [.lit (.bool true)], args := [d] }
  | _ => none }
def fnExactMachTurnRow : OpenClaim := { program := "ytdbkpmhdjdebhaa", sum := "1ecb3e581357abea5cca1ce4f324353f6c4f2fe06978172b1abb244e934f7e85", func := "loop.example/oneletter/laws.FnExactMachTurn", spec := "fnExactMachTurn", unfollowed := true, recurses := true, apart := false }
def FnExactMachTurnSaid : Prop := fnExactMachTurnRow.holds Try.pinned (OpenSpec.ofChange fnExactMachTurnSpec)

/-- ITS FALSE NEIGHBOUR: 'it returns false'. Refute it at one input. -/
def fnExactMachTurnWrong : ChangeSpec := { name := "fnExactMachTurn", fn := fun _ => fun
  | [d] => { results := [.lit (.bool false)], args := [d] }
  | _ => none }
def FnExactMachTurnWrongFalsely : Prop := fnExactMachTurnRow.holds Try.pinned (OpenSpec.ofChange fnExactMachTurnWrong)

/-- 'laws.FnExactMachSingle': WHATEVER THE INPUT: true; the input reads as it did. -/
def fnExactMachSingleSpec : ChangeSpec := { name := "fnExactMachSingle", fn := fun _ => fun
  | [d] => { results := [.lit (.bool true)], args := [d] }
  | _ => none }
def fnExactMachSingleRow : OpenClaim := { program := "ytdbkpmhdjdebhaa", sum := "1ecb3e581357abea5cca1ce4f324353f6c4f2fe06978172b1abb244e934f7e85", func := "loop.example/oneletter/laws.FnExactMachSingle", spec := "fnExactMachSingle", unfollowed := true, recurses := true, apart := false }
def FnExactMachSingleSaid : Prop := fnExactMachSingleRow.holds Try.pinned (OpenSpec.ofChange fnExactMachSingleSpec)

/-- ITS FALSE NEIGHBOUR: 'it returns false'. Refute it at one input. -/
def fnExactMachSingleWrong : ChangeSpec := { name := "fnExactMachSingle", fn := fun _ => fun
  | [d] => { results := [.lit (.bool false)], args := [d] }
  | _ => none }
def FnExactMachSingleWrongFalsely : Prop := fnExactMachSingleRow.holds Try.pinned (OpenSpec.ofChange fnExactMachSingleWrong)

/-- 'laws.FnMachTurn': WHATEVER THE INPUT: true; the input reads as it did. -/
def fnMachTurnSpec : ChangeSpec := { name := "fnMachTurn", fn := fun _ => fun
  | [d] => { results := [.lit (.bool true)], args := [d] }
  | _ => none }
def fnMachTurnRow : OpenClaim := { program := "ytdbkpmhdjdebhaa", sum := "1ecb3e581357abea5cca1ce4f324353f6c4f2fe06978172b1abb244e934f7e85", func := "loop.example/oneletter/laws.FnMachTurn", spec := "fnMachTurn", unfollowed := true, recurses := true, apart := false }
def FnMachTurnSaid : Prop := fnMachTurnRow.holds Try.pinned (OpenSpec.ofChange fnMachTurnSpec)

/-- ITS FALSE NEIGHBOUR: 'it returns false'. Refute it at one input. -/
def fnMachTurnWrong : ChangeSpec := { name := "fnMachTurn", fn := fun _ => fun
  | [d] => { results := [.lit (.bool false)], args := [d] }
  | _ => none }
def FnMachTurnWrongFalsely : Prop := fnMachTurnRow.holds Try.pinned (OpenSpec.ofChange fnMachTurnWrong)

/-- 'laws.FnExactMachBoth': WHATEVER THE INPUT: true; the input reads as it did. -/
def fnExactMachBothSpec : ChangeSpec := { name := "fnExactMachBoth", fn := fun _ => fun
  | [d1, d2] => { results := [.lit (.bool true)], args := [d1, d2] }
  | _ => none }
def fnExactMachBothRow : OpenClaim := { program := "ytdbkpmhdjdebhaa", sum := "1ecb3e581357abea5cca1ce4f324353f6c4f2fe06978172b1abb244e934f7e85", func := "loop.example/oneletter/laws.FnExactMachBoth", spec := "fnExactMachBoth", unfollowed := true, recurses := true, apart := false }
def FnExactMachBothSaid : Prop := fnExactMachBothRow.holds Try.pinned (OpenSpec.ofChange fnExactMachBothSpec)

/-- ITS FALSE NEIGHBOUR: 'it returns false'. Refute it at one input. -/
def fnExactMachBothWrong : ChangeSpec := { name := "fnExactMachBoth", fn := fun _ => fun
  | [d1, d2] => { results := [.lit (.bool false)], args := [d1, d2] }
  | _ => none }
def FnExactMachBothWrongFalsely : Prop := fnExactMachBothRow.holds Try.pinned (OpenSpec.ofChange fnExactMachBothWrong)

/-- 'laws.FnMachSingle': WHATEVER THE INPUT: true; the input reads as it did. -/
def fnMachSingleSpec : ChangeSpec := { name := "fnMachSingle", fn := fun _ => fun
  | [d] => { results := [.lit (.bool true)], args := [d] }
  | _ => none }
def fnMachSingleRow : OpenClaim := { program := "ytdbkpmhdjdebhaa", sum := "1ecb3e581357abea5cca1ce4f324353f6c4f2fe06978172b1abb244e934f7e85", func := "loop.example/oneletter/laws.FnMachSingle", spec := "fnMachSingle", unfollowed := true, recurses := true, apart := false }
def FnMachSingleSaid : Prop := fnMachSingleRow.holds Try.pinned (OpenSpec.ofChange fnMachSingleSpec)

/-- ITS FALSE NEIGHBOUR: 'it returns false'. Refute it at one input. -/
def fnMachSingleWrong : ChangeSpec := { name := "fnMachSingle", fn := fun _ => fun
  | [d] => { results := [.lit (.bool false)], args := [d] }
  | _ => none }
def FnMachSingleWrongFalsely : Prop := fnMachSingleRow.holds Try.pinned (OpenSpec.ofChange fnMachSingleWrong)

/-- 'laws.FnMachBoth': WHATEVER THE INPUT: true; the input reads as it did. -/
def fnMachBothSpec : ChangeSpec := { name := "fnMachBoth", fn := fun _ => fun
  | [d] => { results := [.lit (.bool true)], args := [d] }
  | _ => none }
def fnMachBothRow : OpenClaim := { program := "ytdbkpmhdjdebhaa", sum := "1ecb3e581357abea5cca1ce4f324353f6c4f2fe06978172b1abb244e934f7e85", func := "loop.example/oneletter/laws.FnMachBoth", spec := "fnMachBoth", unfollowed := true, recurses := true, apart := false }
def FnMachBothSaid : Prop := fnMachBothRow.holds Try.pinned (OpenSpec.ofChange fnMachBothSpec)

/-- ITS FALSE NEIGHBOUR: 'it returns false'. Refute it at one input. -/
def fnMachBothWrong : ChangeSpec := { name := "fnMachBoth", fn := fun _ => fun
  | [d] => { results := [.lit (.bool false)], args := [d] }
  | _ => none }
def FnMachBothWrongFalsely : Prop := fnMachBothRow.holds Try.pinned (OpenSpec.ofChange fnMachBothWrong)

/- THE SECOND FORM. 'bulk': how many values and letters a reading holds, each counted each time it is reached (what is shared counts as often as it is met; a slice's spare places count too). A statement '..UptoSaid' is the law's where the arguments, and the package variables that the reading takes, are together of bulk at most 1048576: NARROWER than '..Said'. Prove '..Said' where nothing that the law and all that it calls make is longer than what came in: it says more and counts as full. Else prove '..UptoSaid'. A law counts once. -/
mutual
def uptoBulk {H : Type} : DataW H → Nat
  | .lit (.string bytes) => bytes.length + 1
  | .lit _ => 1
  | .nil => 1
  | .ptr d => uptoBulk d + 1
  | .slice elems spare => uptoBulkAll elems + uptoBulkAll spare + 1
  | .agg parts => uptoBulkAll parts + 1
  | .iface _ d => uptoBulk d + 1
  | .map entries => uptoBulkEntries entries + 1
  | .held _ => 1
def uptoBulkAll {H : Type} : List (DataW H) → Nat
  | [] => 0
  | d :: r => uptoBulk d + uptoBulkAll r
def uptoBulkEntries {H : Type} : List (Lit × DataW H) → Nat
  | [] => 0
  | x :: r => uptoBulkEntry x + uptoBulkEntries r
def uptoBulkEntry {H : Type} : Lit × DataW H → Nat
  | (.string bytes, d) => bytes.length + uptoBulk d + 1
  | (_, d) => uptoBulk d + 1
 end
def uptoSmall : (H : Type) → List (DataW H) → Bool := fun _ ds => decide (uptoBulkAll ds ≤ 1048576)
def OpenSpec.upto (s : _root_.Go.ChangeSpec) : _root_.Go.OpenSpec := { _root_.Go.OpenSpec.ofChange s with cond := some uptoSmall }

/-- 'laws.FnExactMachIn', WHERE WHAT IT READS IS OF BULK AT MOST 1048576: true; the input reads as it did. -/
def fnExactMachInUptoRow : OpenClaim := { program := "ytdbkpmhdjdebhaa", sum := "1ecb3e581357abea5cca1ce4f324353f6c4f2fe06978172b1abb244e934f7e85", func := "loop.example/oneletter/laws.FnExactMachIn", spec := "fnExactMachIn", unfollowed := true, recurses := true, apart := false, narrowed := true }
def FnExactMachInUptoSaid : Prop := fnExactMachInUptoRow.holds Try.pinned (OpenSpec.upto fnExactMachInSpec)

/-- 'laws.FnMachIn', WHERE WHAT IT READS IS OF BULK AT MOST 1048576: true; the input reads as it did. -/
def fnMachInUptoRow : OpenClaim := { program := "ytdbkpmhdjdebhaa", sum := "1ecb3e581357abea5cca1ce4f324353f6c4f2fe06978172b1abb244e934f7e85", func := "loop.example/oneletter/laws.FnMachIn", spec := "fnMachIn", unfollowed := true, recurses := true, apart := false, narrowed := true }
def FnMachInUptoSaid : Prop := fnMachInUptoRow.holds Try.pinned (OpenSpec.upto fnMachInSpec)

/-- 'laws.FnMachAt', WHERE WHAT IT READS IS OF BULK AT MOST 1048576: true; the input reads as it did. -/
def fnMachAtUptoRow : OpenClaim := { program := "ytdbkpmhdjdebhaa", sum := "1ecb3e581357abea5cca1ce4f324353f6c4f2fe06978172b1abb244e934f7e85", func := "loop.example/oneletter/laws.FnMachAt", spec := "fnMachAt", unfollowed := true, recurses := true, apart := false, narrowed := true }
def FnMachAtUptoSaid : Prop := fnMachAtUptoRow.holds Try.pinned (OpenSpec.upto fnMachAtSpec)

/-- 'laws.FnMachTakes', WHERE WHAT IT READS IS OF BULK AT MOST 1048576: true; the input reads as it did. -/
def fnMachTakesUptoRow : OpenClaim := { program := "ytdbkpmhdjdebhaa", sum := "1ecb3e581357abea5cca1ce4f324353f6c4f2fe06978172b1abb244e934f7e85", func := "loop.example/oneletter/laws.FnMachTakes", spec := "fnMachTakes", unfollowed := true, recurses := true, apart := false, narrowed := true }
def FnMachTakesUptoSaid : Prop := fnMachTakesUptoRow.holds Try.pinned (OpenSpec.upto fnMachTakesSpec)

/-- 'laws.FnExactMachAt', WHERE WHAT IT READS IS OF BULK AT MOST 1048576: true; the input reads as it did. -/
def fnExactMachAtUptoRow : OpenClaim := { program := "ytdbkpmhdjdebhaa", sum := "1ecb3e581357abea5cca1ce4f324353f6c4f2fe06978172b1abb244e934f7e85", func := "loop.example/oneletter/laws.FnExactMachAt", spec := "fnExactMachAt", unfollowed := true, recurses := true, apart := false, narrowed := true }
def FnExactMachAtUptoSaid : Prop := fnExactMachAtUptoRow.holds Try.pinned (OpenSpec.upto fnExactMachAtSpec)

/-- 'laws.FnExactMachTakes', WHERE WHAT IT READS IS OF BULK AT MOST 1048576: true; the input reads as it did. -/
def fnExactMachTakesUptoRow : OpenClaim := { program := "ytdbkpmhdjdebhaa", sum := "1ecb3e581357abea5cca1ce4f324353f6c4f2fe06978172b1abb244e934f7e85", func := "loop.example/oneletter/laws.FnExactMachTakes", spec := "fnExactMachTakes", unfollowed := true, recurses := true, apart := false, narrowed := true }
def FnExactMachTakesUptoSaid : Prop := fnExactMachTakesUptoRow.holds Try.pinned (OpenSpec.upto fnExactMachTakesSpec)

/-- 'laws.FnExactMachTurn', WHERE WHAT IT READS IS OF BULK AT MOST 1048576: true; the input reads as it did. -/
def fnExactMachTurnUptoRow : OpenClaim := { program := "ytdbkpmhdjdebhaa", sum := "1ecb3e581357abea5cca1ce4f324353f6c4f2fe06978172b1abb244e934f7e85", func := "loop.example/oneletter/laws.FnExactMachTurn", spec := "fnExactMachTurn", unfollowed := true, recurses := true, apart := false, narrowed := true }
def FnExactMachTurnUptoSaid : Prop := fnExactMachTurnUptoRow.holds Try.pinned (OpenSpec.upto fnExactMachTurnSpec)

/-- 'laws.FnExactMachSingle', WHERE WHAT IT READS IS OF BULK AT MOST 1048576: true; the input reads as it did. -/
def fnExactMachSingleUptoRow : OpenClaim := { program := "ytdbkpmhdjdebhaa", sum := "1ecb3e581357abea5cca1ce4f324353f6c4f2fe06978172b1abb244e934f7e85", func := "loop.example/oneletter/laws.FnExactMachSingle", spec := "fnExactMachSingle", unfollowed := true, recurses := true, apart := false, narrowed := true }
def FnExactMachSingleUptoSaid : Prop := fnExactMachSingleUptoRow.holds Try.pinned (OpenSpec.upto fnExactMachSingleSpec)

/-- 'laws.FnMachTurn', WHERE WHAT IT READS IS OF BULK AT MOST 1048576: true; the input reads as it did. -/
def fnMachTurnUptoRow : OpenClaim := { program := "ytdbkpmhdjdebhaa", sum := "1ecb3e581357abea5cca1ce4f324353f6c4f2fe06978172b1abb244e934f7e85", func := "loop.example/oneletter/laws.FnMachTurn", spec := "fnMachTurn", unfollowed := true, recurses := true, apart := false, narrowed := true }
def FnMachTurnUptoSaid : Prop := fnMachTurnUptoRow.holds Try.pinned (OpenSpec.upto fnMachTurnSpec)

/-- 'laws.FnExactMachBoth', WHERE WHAT IT READS IS OF BULK AT MOST 1048576: true; the input reads as it did. -/
def fnExactMachBothUptoRow : OpenClaim := { program := "ytdbkpmhdjdebhaa", sum := "1ecb3e581357abea5cca1ce4f324353f6c4f2fe06978172b1abb244e934f7e85", func := "loop.example/oneletter/laws.FnExactMachBoth", spec := "fnExactMachBoth", unfollowed := true, recurses := true, apart := false, narrowed := true }
def FnExactMachBothUptoSaid : Prop := fnExactMachBothUptoRow.holds Try.pinned (OpenSpec.upto fnExactMachBothSpec)

/-- 'laws.FnMachSingle', WHERE WHAT IT READS IS OF BULK AT MOST 1048576: true; the input reads as it did. -/
def fnMachSingleUptoRow : OpenClaim := { program := "ytdbkpmhdjdebhaa", sum := "1ecb3e581357abea5cca1ce4f324353f6c4f2fe06978172b1abb244e934f7e85", func := "loop.example/oneletter/laws.FnMachSingle", spec := "fnMachSingle", unfollowed := true, recurses := true, apart := false, narrowed := true }
def FnMachSingleUptoSaid : Prop := fnMachSingleUptoRow.holds Try.pinned (OpenSpec.upto fnMachSingleSpec)

/-- 'laws.FnMachBoth', WHERE WHAT IT READS IS OF BULK AT MOST 1048576: true; the input reads as it did. -/
def fnMachBothUptoRow : OpenClaim := { program := "ytdbkpmhdjdebhaa", sum := "1ecb3e581357abea5cca1ce4f324353f6c4f2fe06978172b1abb244e934f7e85", func := "loop.example/oneletter/laws.FnMachBoth", spec := "fnMachBoth", unfollowed := true, recurses := true, apart := false, narrowed := true }
def FnMachBothUptoSaid : Prop := fnMachBothUptoRow.holds Try.pinned (OpenSpec.upto fnMachBothSpec)

end Rows
end Go.Proofs.Ytdbkpmhdjdebhaa
