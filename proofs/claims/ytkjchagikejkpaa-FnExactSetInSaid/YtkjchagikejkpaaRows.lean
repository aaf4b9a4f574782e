/-
  No cell of these rows narrows 'for every input' (looked for: loops, veiled, ifaces, maps, wideKeys, modest, calm, conditions, laid).
  DERIVED. THE GIVEN ROWS OF THIS SEAT. 29 by the template 'for every input the law returns true; each argument reads behind the call as it read before'; 0 by the template 'total and deterministic' (their statements: YtkjchagikejkpaaTotals.lean).
  GIVEN WITH THE SEED: the statements are not yours to turn. If you find one false, say at which input.
  Laid BY PROGRAM, IN A SANDBOX (cutbox-rows.mjs): the forced cells as the released guide's own fill.sh prints them over the translation 2c4c17bffdfcf933… (all of the seat's roots in one cut). By AI agents, Wed Nov 11 2026. No macro, syntax, notation, axiom, sorry.
-/
import Derived.Test.YtkjchagikejkpaaChecked
import GoSem.Claim
import GoSem.ClaimJoined
import GoSem.ClaimMapViews
import Derived.JoinedTies
import Derived.KernelRfl
namespace Go.Proofs.Ytkjchagikejkpaa
/- THE CELL 'sum', in the pinned program and in every row, IS THE sha256 OF THE DUMP (.gsa) THAT YtkjchagikejkpaaProg.lean LOADS. Nothing in Lean hashes anything: it is a label: what it is worth is what the hold of that sum in a sandbox is worth. -/
noncomputable def Try.pinned : Pinned := { name := "ytkjchagikejkpaa", sum := "2c4c17bffdfcf9339769000a7ab20c497da8b764fdfcb561abdfd6aaad8ad500", checked := Try.checked }
namespace Rows
def none {H : Type} : Left H := { results := [], args := [] }

/-- 'laws.FnExactStarGap': WHATEVER THE INPUT: true; the input reads as it did. -/
def fnExactStarGapSpec : ChangeSpec := { name := "fnExactStarGap", fn := fun _ => fun
  | [d] => { results := [.lit (.bool true)], args := [d] }
  | _ => none }
def fnExactStarGapRow : OpenClaim := { program := "ytkjchagikejkpaa", sum := "2c4c17bffdfcf9339769000a7ab20c497da8b764fdfcb561abdfd6aaad8ad500", func := "loop.example/oneletter/laws.FnExactStarGap", spec := "fnExactStarGap", inPlace := ["internal/bytealg.IndexByteString", "internal/bytealg.IndexString"], unfollowed := true, recurses := true, named := ["internal/bytealg.MaxLen"], apart := false }
def FnExactStarGapSaid : Prop := fnExactStarGapRow.holds Try.pinned (OpenSpec.ofChange fnExactStarGapSpec)

/-- ITS FALSE NEIGHBOUR: 'it returns false'. Refute it at one input. -/
def fnExactStarGapWrong : ChangeSpec := { name := "fnExactStarGap", fn := fun _ => fun
  | [d] => { results := [.lit (.bool false)], args := [d] }
  | _ => none }
def FnExactStarGapWrongFalsely : Prop := fnExactStarGapRow.holds Try.pinned (OpenSpec.ofChange fnExactStarGapWrong)

/-- 'laws.FnRestRound': WHATEVER THE INPUT: true; the input reads as it did. -/
def fnRestRoundSpec : ChangeSpec := { name := "fnRestRound", fn := fun _ => fun
  | [d] => { results := [.lit (.bool true)], args := [d] }
  | _ => none }
def fnRestRoundRow : OpenClaim := { program := "ytkjchagikejkpaa", sum := "2c4c17bffdfcf9339769000a7ab20c497da8b764fdfcb561abdfd6aaad8ad500", func := "loop.example/oneletter/laws.FnRestRound", spec := "fnRestRound", inPlace := ["internal/bytealg.IndexByteString", "internal/bytealg.IndexString"], recurses := true, named := ["internal/bytealg.MaxLen"], apart := false }
def FnRestRoundSaid : Prop := fnRestRoundRow.holds Try.pinned (OpenSpec.ofChange fnRestRoundSpec)

/-- ITS FALSE NEIGHBOUR: 'it returns false'. Refute it at one input. -/
def fnRestRoundWrong : ChangeSpec := { name := "fnRestRound", fn := fun _ => fun
  | [d] => { results := [.lit (.bool false)], args := [d] }
  | _ => none }
def FnRestRoundWrongFalsely : Prop := fnRestRoundRow.holds Try.pinned (OpenSpec.ofChange fnRestRoundWrong)

/-- 'laws.FnExactSetIn': WHATEVER THE INPUT: true; the input reads as it did. -/
def fnExactSetInSpec : ChangeSpec := { name := "fnExactSetIn", fn := fun _ => fun
  | [d] => { results := [.lit (.bool true)], args := [d] }
  | _ => none }
def fnExactSetInRow : OpenClaim := { program := "ytkjchagikejkpaa", sum := "2c4c17bffdfcf9339769000a7ab20c497da8b764fdfcb561abdfd6aaad8ad500", func := "loop.example/oneletter/laws.FnExactSetIn", spec := "fnExactSetIn", inPlace := ["internal/bytealg.IndexByteString", "internal/bytealg.IndexString"], named := ["internal/bytealg.MaxLen"], apart := false }
def FnExactSetInSaid : Prop := fnExactSetInRow.holds Try.pinned (OpenSpec.ofChange fnExactSetInSpec)

/-- ITS FALSE NEIGHBOUR: 'it returns false'. Refute it at one input. -/
def fnExactSetInWrong : ChangeSpec := { name := "fnExactSetIn", fn := fun _ => fun
  | [d] => { results := [.lit (.bool false)], args := [d] }
  | _ => none }
def FnExactSetInWrongFalsely : Prop := fnExactSetInRow.holds Try.pinned (OpenSpec.ofChange fnExactSetInWrong)

/-- 'laws.FnSetHas': WHATEVER THE INPUT: true; the input reads as it did. -/
def fnSetHasSpec : ChangeSpec := { name := "fnSetHas", fn := fun _ => fun
  | [d] => { results := [.lit (.bool true)], args := [d] }
  | _ => none }
def fnSetHasRow : OpenClaim := { program := "ytkjchagikejkpaa", sum := "2c4c17bffdfcf9339769000a7ab20c497da8b764fdfcb561abdfd6aaad8ad500", func := "loop.example/oneletter/laws.FnSetHas", spec := "fnSetHas", inPlace := ["internal/bytealg.IndexByteString", "internal/bytealg.IndexString", "internal/abi.NoEscape"], named := ["internal/bytealg.MaxLen"], apart := false }
def FnSetHasSaid : Prop := fnSetHasRow.holds Try.pinned (OpenSpec.ofChange fnSetHasSpec)

/-- ITS FALSE NEIGHBOUR: 'it returns false'. Refute it at one input. -/
def fnSetHasWrong : ChangeSpec := { name := "fnSetHas", fn := fun _ => fun
  | [d] => { results := [.lit (.bool false)], args := [d] }
  | _ => none }
def FnSetHasWrongFalsely : Prop := fnSetHasRow.holds Try.pinned (OpenSpec.ofChange fnSetHasWrong)

/-- 'laws.FnExactSetHas': WHATEVER THE INPUT: true; the input reads as it did. -/
def fnExactSetHasSpec : ChangeSpec := { name := "fnExactSetHas", fn := fun _ => fun
  | [d1, d2] => { results := [.lit (.bool true)], args := [d1, d2] }
  | _ => none }
def fnExactSetHasRow : OpenClaim := { program := "ytkjchagikejkpaa", sum := "2c4c17bffdfcf9339769000a7ab20c497da8b764fdfcb561abdfd6aaad8ad500", func := "loop.example/oneletter/laws.FnExactSetHas", spec := "fnExactSetHas", inPlace := ["internal/bytealg.IndexByteString", "internal/bytealg.IndexString"], named := ["internal/bytealg.MaxLen"], apart := false }
def FnExactSetHasSaid : Prop := fnExactSetHasRow.holds Try.pinned (OpenSpec.ofChange fnExactSetHasSpec)

/-- ITS FALSE NEIGHBOUR: 'it returns false'. Refute it at one input. -/
def fnExactSetHasWrong : ChangeSpec := { name := "fnExactSetHas", fn := fun _ => fun
  | [d1, d2] => { results := [.lit (.bool false)], args := [d1, d2] }
  | _ => none }
def FnExactSetHasWrongFalsely : Prop := fnExactSetHasRow.holds Try.pinned (OpenSpec.ofChange fnExactSetHasWrong)

/-- 'laws.FnExactSetOf': WHATEVER THE INPUT: true; the input reads as it did. -/
def fnExactSetOfSpec : ChangeSpec := { name := "fnExactSetOf", fn := fun _ => fun
  | [d] => { results := [.lit (.bool true)], args := [d] }
  | _ => none }
def fnExactSetOfRow : OpenClaim := { program := "ytkjchagikejkpaa", sum := "2c4c17bffdfcf9339769000a7ab20c497da8b764fdfcb561abdfd6aaad8ad500", func := "loop.example/oneletter/laws.FnExactSetOf", spec := "fnExactSetOf", inPlace := ["internal/abi.NoEscape"], unfollowed := true, recurses := true, apart := false }
def FnExactSetOfSaid : Prop := fnExactSetOfRow.holds Try.pinned (OpenSpec.ofChange fnExactSetOfSpec)

/-- ITS FALSE NEIGHBOUR: 'it returns false'. Refute it at one input. -/
def fnExactSetOfWrong : ChangeSpec := { name := "fnExactSetOf", fn := fun _ => fun
  | [d] => { results := [.lit (.bool false)], args := [d] }
  | _ => none }
def FnExactSetOfWrongFalsely : Prop := fnExactSetOfRow.holds Try.pinned (OpenSpec.ofChange fnExactSetOfWrong)

/-- 'laws.FnExactSetEnds': WHATEVER THE INPUT: true; the input reads as it did. -/
def fnExactSetEndsSpec : ChangeSpec := { name := "fnExactSetEnds", fn := fun _ => fun
  | [d] => { results := [.lit (.bool true)], args := [d] }
  | _ => none }
def fnExactSetEndsRow : OpenClaim := { program := "ytkjchagikejkpaa", sum := "2c4c17bffdfcf9339769000a7ab20c497da8b764fdfcb561abdfd6aaad8ad500", func := "loop.example/oneletter/laws.FnExactSetEnds", spec := "fnExactSetEnds", inPlace := ["internal/bytealg.IndexByteString", "internal/bytealg.IndexString"], named := ["internal/bytealg.MaxLen"], apart := false }
def FnExactSetEndsSaid : Prop := fnExactSetEndsRow.holds Try.pinned (OpenSpec.ofChange fnExactSetEndsSpec)

/-- ITS FALSE NEIGHBOUR: 'it returns false'. Refute it at one input. -/
def fnExactSetEndsWrong : ChangeSpec := { name := "fnExactSetEnds", fn := fun _ => fun
  | [d] => { results := [.lit (.bool false)], args := [d] }
  | _ => none }
def FnExactSetEndsWrongFalsely : Prop := fnExactSetEndsRow.holds Try.pinned (OpenSpec.ofChange fnExactSetEndsWrong)

/-- 'laws.FnExactSetFrom': WHATEVER THE INPUT: true; the input reads as it did. -/
def fnExactSetFromSpec : ChangeSpec := { name := "fnExactSetFrom", fn := fun _ => fun
  | [d1, d2] => { results := [.lit (.bool true)], args := [d1, d2] }
  | _ => none }
def fnExactSetFromRow : OpenClaim := { program := "ytkjchagikejkpaa", sum := "2c4c17bffdfcf9339769000a7ab20c497da8b764fdfcb561abdfd6aaad8ad500", func := "loop.example/oneletter/laws.FnExactSetFrom", spec := "fnExactSetFrom", inPlace := ["internal/bytealg.IndexByteString", "internal/bytealg.IndexString"], named := ["internal/bytealg.MaxLen"], apart := false }
def FnExactSetFromSaid : Prop := fnExactSetFromRow.holds Try.pinned (OpenSpec.ofChange fnExactSetFromSpec)

/-- ITS FALSE NEIGHBOUR: 'it returns false'. Refute it at one input. -/
def fnExactSetFromWrong : ChangeSpec := { name := "fnExactSetFrom", fn := fun _ => fun
  | [d1, d2] => { results := [.lit (.bool false)], args := [d1, d2] }
  | _ => none }
def FnExactSetFromWrongFalsely : Prop := fnExactSetFromRow.holds Try.pinned (OpenSpec.ofChange fnExactSetFromWrong)

/-- 'laws.FnExactSetCount': WHATEVER THE INPUT: true; the input reads as it did. -/
def fnExactSetCountSpec : ChangeSpec := { name := "fnExactSetCount", fn := fun _ => fun
  | [d1, d2] => { results := [.lit (.bool true)], args := [d1, d2] }
  | _ => none }
def fnExactSetCountRow : OpenClaim := { program := "ytkjchagikejkpaa", sum := "2c4c17bffdfcf9339769000a7ab20c497da8b764fdfcb561abdfd6aaad8ad500", func := "loop.example/oneletter/laws.FnExactSetCount", spec := "fnExactSetCount", inPlace := ["internal/bytealg.IndexByteString", "internal/bytealg.IndexString"], named := ["internal/bytealg.MaxLen"], apart := false }
def FnExactSetCountSaid : Prop := fnExactSetCountRow.holds Try.pinned (OpenSpec.ofChange fnExactSetCountSpec)

/-- ITS FALSE NEIGHBOUR: 'it returns false'. Refute it at one input. -/
def fnExactSetCountWrong : ChangeSpec := { name := "fnExactSetCount", fn := fun _ => fun
  | [d1, d2] => { results := [.lit (.bool false)], args := [d1, d2] }
  | _ => none }
def FnExactSetCountWrongFalsely : Prop := fnExactSetCountRow.holds Try.pinned (OpenSpec.ofChange fnExactSetCountWrong)

/-- 'laws.FnExactSetBelow': WHATEVER THE INPUT: true; the input reads as it did. -/
def fnExactSetBelowSpec : ChangeSpec := { name := "fnExactSetBelow", fn := fun _ => fun
  | [d1, d2] => { results := [.lit (.bool true)], args := [d1, d2] }
  | _ => none }
def fnExactSetBelowRow : OpenClaim := { program := "ytkjchagikejkpaa", sum := "2c4c17bffdfcf9339769000a7ab20c497da8b764fdfcb561abdfd6aaad8ad500", func := "loop.example/oneletter/laws.FnExactSetBelow", spec := "fnExactSetBelow", inPlace := ["internal/bytealg.IndexByteString", "internal/bytealg.IndexString"], named := ["internal/bytealg.MaxLen"], apart := false }
def FnExactSetBelowSaid : Prop := fnExactSetBelowRow.holds Try.pinned (OpenSpec.ofChange fnExactSetBelowSpec)

/-- ITS FALSE NEIGHBOUR: 'it returns false'. Refute it at one input. -/
def fnExactSetBelowWrong : ChangeSpec := { name := "fnExactSetBelow", fn := fun _ => fun
  | [d1, d2] => { results := [.lit (.bool false)], args := [d1, d2] }
  | _ => none }
def FnExactSetBelowWrongFalsely : Prop := fnExactSetBelowRow.holds Try.pinned (OpenSpec.ofChange fnExactSetBelowWrong)

/-- 'laws.FnExactSetSizes': WHATEVER THE INPUT: true; the input reads as it did. -/
def fnExactSetSizesSpec : ChangeSpec := { name := "fnExactSetSizes", fn := fun _ => fun
  | [d] => { results := [.lit (.bool true)], args := [d] }
  | _ => none }
def fnExactSetSizesRow : OpenClaim := { program := "ytkjchagikejkpaa", sum := "2c4c17bffdfcf9339769000a7ab20c497da8b764fdfcb561abdfd6aaad8ad500", func := "loop.example/oneletter/laws.FnExactSetSizes", spec := "fnExactSetSizes", inPlace := ["internal/bytealg.IndexByteString", "internal/bytealg.IndexString"], recurses := true, named := ["internal/bytealg.MaxLen"], apart := false }
def FnExactSetSizesSaid : Prop := fnExactSetSizesRow.holds Try.pinned (OpenSpec.ofChange fnExactSetSizesSpec)

/-- ITS FALSE NEIGHBOUR: 'it returns false'. Refute it at one input. -/
def fnExactSetSizesWrong : ChangeSpec := { name := "fnExactSetSizes", fn := fun _ => fun
  | [d] => { results := [.lit (.bool false)], args := [d] }
  | _ => none }
def FnExactSetSizesWrongFalsely : Prop := fnExactSetSizesRow.holds Try.pinned (OpenSpec.ofChange fnExactSetSizesWrong)

/-- 'laws.FnExactSetList': WHATEVER THE INPUT: true; the input reads as it did. -/
def fnExactSetListSpec : ChangeSpec := { name := "fnExactSetList", fn := fun _ => fun
  | [d1, d2] => { results := [.lit (.bool true)], args := [d1, d2] }
  | _ => none }
def fnExactSetListRow : OpenClaim := { program := "ytkjchagikejkpaa", sum := "2c4c17bffdfcf9339769000a7ab20c497da8b764fdfcb561abdfd6aaad8ad500", func := "loop.example/oneletter/laws.FnExactSetList", spec := "fnExactSetList", inPlace := ["internal/bytealg.IndexByteString", "internal/bytealg.IndexString"], named := ["internal/bytealg.MaxLen"], apart := false }
def FnExactSetListSaid : Prop := fnExactSetListRow.holds Try.pinned (OpenSpec.ofChange fnExactSetListSpec)

/-- ITS FALSE NEIGHBOUR: 'it returns false'. Refute it at one input. -/
def fnExactSetListWrong : ChangeSpec := { name := "fnExactSetList", fn := fun _ => fun
  | [d1, d2] => { results := [.lit (.bool false)], args := [d1, d2] }
  | _ => none }
def FnExactSetListWrongFalsely : Prop := fnExactSetListRow.holds Try.pinned (OpenSpec.ofChange fnExactSetListWrong)

/-- 'laws.FnSetFrom': WHATEVER THE INPUT: true; the input reads as it did. -/
def fnSetFromSpec : ChangeSpec := { name := "fnSetFrom", fn := fun _ => fun
  | [d] => { results := [.lit (.bool true)], args := [d] }
  | _ => none }
def fnSetFromRow : OpenClaim := { program := "ytkjchagikejkpaa", sum := "2c4c17bffdfcf9339769000a7ab20c497da8b764fdfcb561abdfd6aaad8ad500", func := "loop.example/oneletter/laws.FnSetFrom", spec := "fnSetFrom", inPlace := ["internal/bytealg.IndexByteString", "internal/bytealg.IndexString"], named := ["internal/bytealg.MaxLen"], apart := false }
def FnSetFromSaid : Prop := fnSetFromRow.holds Try.pinned (OpenSpec.ofChange fnSetFromSpec)

/-- ITS FALSE NEIGHBOUR: 'it returns false'. Refute it at one input. -/
def fnSetFromWrong : ChangeSpec := { name := "fnSetFrom", fn := fun _ => fun
  | [d] => { results := [.lit (.bool false)], args := [d] }
  | _ => none }
def FnSetFromWrongFalsely : Prop := fnSetFromRow.holds Try.pinned (OpenSpec.ofChange fnSetFromWrong)

/-- 'laws.FnSetEnds': WHATEVER THE INPUT: true; the input reads as it did. -/
def fnSetEndsSpec : ChangeSpec := { name := "fnSetEnds", fn := fun _ => fun
  | [d] => { results := [.lit (.bool true)], args := [d] }
  | _ => none }
def fnSetEndsRow : OpenClaim := { program := "ytkjchagikejkpaa", sum := "2c4c17bffdfcf9339769000a7ab20c497da8b764fdfcb561abdfd6aaad8ad500", func := "loop.example/oneletter/laws.FnSetEnds", spec := "fnSetEnds", inPlace := ["internal/bytealg.IndexByteString", "internal/bytealg.IndexString"], named := ["internal/bytealg.MaxLen"], apart := false }
def FnSetEndsSaid : Prop := fnSetEndsRow.holds Try.pinned (OpenSpec.ofChange fnSetEndsSpec)

/-- ITS FALSE NEIGHBOUR: 'it returns false'. Refute it at one input. -/
def fnSetEndsWrong : ChangeSpec := { name := "fnSetEnds", fn := fun _ => fun
  | [d] => { results := [.lit (.bool false)], args := [d] }
  | _ => none }
def FnSetEndsWrongFalsely : Prop := fnSetEndsRow.holds Try.pinned (OpenSpec.ofChange fnSetEndsWrong)

/-- 'laws.FnSetCount': WHATEVER THE INPUT: true; the input reads as it did. -/
def fnSetCountSpec : ChangeSpec := { name := "fnSetCount", fn := fun _ => fun
  | [d] => { results := [.lit (.bool true)], args := [d] }
  | _ => none }
def fnSetCountRow : OpenClaim := { program := "ytkjchagikejkpaa", sum := "2c4c17bffdfcf9339769000a7ab20c497da8b764fdfcb561abdfd6aaad8ad500", func := "loop.example/oneletter/laws.FnSetCount", spec := "fnSetCount", inPlace := ["internal/bytealg.IndexByteString", "internal/bytealg.IndexString"], named := ["internal/bytealg.MaxLen"], apart := false }
def FnSetCountSaid : Prop := fnSetCountRow.holds Try.pinned (OpenSpec.ofChange fnSetCountSpec)

/-- ITS FALSE NEIGHBOUR: 'it returns false'. Refute it at one input. -/
def fnSetCountWrong : ChangeSpec := { name := "fnSetCount", fn := fun _ => fun
  | [d] => { results := [.lit (.bool false)], args := [d] }
  | _ => none }
def FnSetCountWrongFalsely : Prop := fnSetCountRow.holds Try.pinned (OpenSpec.ofChange fnSetCountWrong)

/-- 'laws.FnExactRestRound': WHATEVER THE INPUT: true; the input reads as it did. -/
def fnExactRestRoundSpec : ChangeSpec := { name := "fnExactRestRound", fn := fun _ => fun
  | [d] => { results := [.lit (.bool true)], args := [d] }
  | _ => none }
def fnExactRestRoundRow : OpenClaim := { program := "ytkjchagikejkpaa", sum := "2c4c17bffdfcf9339769000a7ab20c497da8b764fdfcb561abdfd6aaad8ad500", func := "loop.example/oneletter/laws.FnExactRestRound", spec := "fnExactRestRound", inPlace := ["internal/bytealg.IndexByteString", "internal/bytealg.IndexString"], recurses := true, named := ["internal/bytealg.MaxLen"], apart := false }
def FnExactRestRoundSaid : Prop := fnExactRestRoundRow.holds Try.pinned (OpenSpec.ofChange fnExactRestRoundSpec)

/-- ITS FALSE NEIGHBOUR: 'it returns false'. Refute it at one input. -/
def fnExactRestRoundWrong : ChangeSpec := { name := "fnExactRestRound", fn := fun _ => fun
  | [d] => { results := [.lit (.bool false)], args := [d] }
  | _ => none }
def FnExactRestRoundWrongFalsely : Prop := fnExactRestRoundRow.holds Try.pinned (OpenSpec.ofChange fnExactRestRoundWrong)

/-- 'laws.FnExactMachSet': WHATEVER THE INPUT: true; the input reads as it did. -/
def fnExactMachSetSpec : ChangeSpec := { name := "fnExactMachSet", fn := fun _ => fun
  | [d] => { results := [.lit (.bool true)], args := [d] }
  | _ => none }
def fnExactMachSetRow : OpenClaim := { program := "ytkjchagikejkpaa", sum := "2c4c17bffdfcf9339769000a7ab20c497da8b764fdfcb561abdfd6aaad8ad500", func := "loop.example/oneletter/laws.FnExactMachSet", spec := "fnExactMachSet", inPlace := ["internal/abi.NoEscape"], unfollowed := true, recurses := true, apart := false }
def FnExactMachSetSaid : Prop := fnExactMachSetRow.holds Try.pinned (OpenSpec.ofChange fnExactMachSetSpec)

/-- ITS FALSE NEIGHBOUR: 'it returns false'. Refute it at one input. -/
def fnExactMachSetWrong : ChangeSpec := { name := "fnExactMachSet", fn := fun _ => fun
  | [d] => { results := [.lit (.bool false)], args := [d] }
  | _ => none }
def FnExactMachSetWrongFalsely : Prop := fnExactMachSetRow.holds Try.pinned (OpenSpec.ofChange fnExactMachSetWrong)

/-- 'laws.FnExactRestSame': WHATEVER THE INPUT: true; the input reads as it did. -/
def fnExactRestSameSpec : ChangeSpec := { name := "fnExactRestSame", fn := fun _ => fun
  | [d1, d2, d3] => { results := [.lit (.bool true)], args := [d1, d2, d3] }
  | _ => none }
def fnExactRestSameRow : OpenClaim := { program := "ytkjchagikejkpaa", sum := "2c4c17bffdfcf9339769000a7ab20c497da8b764fdfcb561abdfd6aaad8ad500", func := "loop.example/oneletter/laws.FnExactRestSame", spec := "fnExactRestSame", inPlace := ["internal/bytealg.IndexByteString", "internal/bytealg.IndexString"], recurses := true, named := ["internal/bytealg.MaxLen"], apart := false }
def FnExactRestSameSaid : Prop := fnExactRestSameRow.holds Try.pinned (OpenSpec.ofChange fnExactRestSameSpec)

/-- ITS FALSE NEIGHBOUR: 'it returns false'. Refute it at one input. -/
def fnExactRestSameWrong : ChangeSpec := { name := "fnExactRestSame", fn := fun _ => fun
  | [d1, d2, d3] => { results := [.lit (.bool false)], args := [d1, d2, d3] }
  | _ => none }
def FnExactRestSameWrongFalsely : Prop := fnExactRestSameRow.holds Try.pinned (OpenSpec.ofChange fnExactRestSameWrong)

/-- 'laws.FnSetCounts': WHATEVER THE INPUT: true; the input reads as it did. -/
def fnSetCountsSpec : ChangeSpec := { name := "fnSetCounts", fn := fun _ => fun
  | [d] => { results := [.lit (.bool true)], args := [d] }
  | _ => none }
def fnSetCountsRow : OpenClaim := { program := "ytkjchagikejkpaa", sum := "2c4c17bffdfcf9339769000a7ab20c497da8b764fdfcb561abdfd6aaad8ad500", func := "loop.example/oneletter/laws.FnSetCounts", spec := "fnSetCounts", inPlace := ["internal/bytealg.IndexByteString", "internal/bytealg.IndexString"], named := ["internal/bytealg.MaxLen"], apart := false }
def FnSetCountsSaid : Prop := fnSetCountsRow.holds Try.pinned (OpenSpec.ofChange fnSetCountsSpec)

/-- ITS FALSE NEIGHBOUR: 'it returns false'. Refute it at one input. -/
def fnSetCountsWrong : ChangeSpec := { name := "fnSetCounts", fn := fun _ => fun
  | [d] => { results := [.lit (.bool false)], args := [d] }
  | _ => none }
def FnSetCountsWrongFalsely : Prop := fnSetCountsRow.holds Try.pinned (OpenSpec.ofChange fnSetCountsWrong)

/-- 'laws.FnExactRestMany': WHATEVER THE INPUT: true; the input reads as it did. -/
def fnExactRestManySpec : ChangeSpec := { name := "fnExactRestMany", fn := fun _ => fun
  | [d] => { results := [.lit (.bool true)], args := [d] }
  | _ => none }
def fnExactRestManyRow : OpenClaim := { program := "ytkjchagikejkpaa", sum := "2c4c17bffdfcf9339769000a7ab20c497da8b764fdfcb561abdfd6aaad8ad500", func := "loop.example/oneletter/laws.FnExactRestMany", spec := "fnExactRestMany", inPlace := ["internal/bytealg.IndexByteString", "internal/bytealg.IndexString"], recurses := true, named := ["internal/bytealg.MaxLen"], apart := false }
def FnExactRestManySaid : Prop := fnExactRestManyRow.holds Try.pinned (OpenSpec.ofChange fnExactRestManySpec)

/-- ITS FALSE NEIGHBOUR: 'it returns false'. Refute it at one input. -/
def fnExactRestManyWrong : ChangeSpec := { name := "fnExactRestMany", fn := fun _ => fun
  | [d] => { results := [.lit (.bool false)], args := [d] }
  | _ => none }
def FnExactRestManyWrongFalsely : Prop := fnExactRestManyRow.holds Try.pinned (OpenSpec.ofChange fnExactRestManyWrong)

/-- 'laws.FnSetList': WHATEVER THE INPUT: true; the input reads as it did. -/
def fnSetListSpec : ChangeSpec := { name := "fnSetList", fn := fun _ => fun
  | [d] => { results := [.lit (.bool true)], args := [d] }
  | _ => none }
def fnSetListRow : OpenClaim := { program := "ytkjchagikejkpaa", sum := "2c4c17bffdfcf9339769000a7ab20c497da8b764fdfcb561abdfd6aaad8ad500", func := "loop.example/oneletter/laws.FnSetList", spec := "fnSetList", inPlace := ["internal/bytealg.IndexByteString", "internal/bytealg.IndexString"], named := ["internal/bytealg.MaxLen"], apart := false }
def FnSetListSaid : Prop := fnSetListRow.holds Try.pinned (OpenSpec.ofChange fnSetListSpec)

/-- ITS FALSE NEIGHBOUR: 'it returns false'. Refute it at one input. -/
def fnSetListWrong : ChangeSpec := { name := "fnSetList", fn := fun _ => fun
  | [d] => { results := [.lit (.bool false)], args := [d] }
  | _ => none }
def FnSetListWrongFalsely : Prop := fnSetListRow.holds Try.pinned (OpenSpec.ofChange fnSetListWrong)

/-- 'laws.FnSetBelow': WHATEVER THE INPUT: true; the input reads as it did. -/
def fnSetBelowSpec : ChangeSpec := { name := "fnSetBelow", fn := fun _ => fun
  | [d] => { results := [.lit (.bool true)], args := [d] }
  | _ => none }
def fnSetBelowRow : OpenClaim := { program := "ytkjchagikejkpaa", sum := "2c4c17bffdfcf9339769000a7ab20c497da8b764fdfcb561abdfd6aaad8ad500", func := "loop.example/oneletter/laws.FnSetBelow", spec := "fnSetBelow", inPlace := ["internal/bytealg.IndexByteString", "internal/bytealg.IndexString"], named := ["internal/bytealg.MaxLen"], apart := false }
def FnSetBelowSaid : Prop := fnSetBelowRow.holds Try.pinned (OpenSpec.ofChange fnSetBelowSpec)

/-- ITS FALSE NEIGHBOUR: 'it returns false'. Refute it at one input. -/
def fnSetBelowWrong : ChangeSpec := { name := "fnSetBelow", fn := fun _ => fun
  | [d] => { results := [.lit (.bool false)], args := [d] }
  | _ => none }
def FnSetBelowWrongFalsely : Prop := fnSetBelowRow.holds Try.pinned (OpenSpec.ofChange fnSetBelowWrong)

/-- 'laws.FnExactRestFirst': WHATEVER THE INPUT: true; the input reads as it did. -/
def fnExactRestFirstSpec : ChangeSpec := { name := "fnExactRestFirst", fn := fun _ => fun
  | [d1, d2] => { results := [.lit (.bool true)], args := [d1, d2] }
  | _ => none }
def fnExactRestFirstRow : OpenClaim := { program := "ytkjchagikejkpaa", sum := "2c4c17bffdfcf9339769000a7ab20c497da8b764fdfcb561abdfd6aaad8ad500", func := "loop.example/oneletter/laws.FnExactRestFirst", spec := "fnExactRestFirst", inPlace := ["internal/bytealg.IndexByteString", "internal/bytealg.IndexString"], recurses := true, named := ["internal/bytealg.MaxLen"], apart := false }
def FnExactRestFirstSaid : Prop := fnExactRestFirstRow.holds Try.pinned (OpenSpec.ofChange fnExactRestFirstSpec)

/-- ITS FALSE NEIGHBOUR: 'it returns false'. Refute it at one input. -/
def fnExactRestFirstWrong : ChangeSpec := { name := "fnExactRestFirst", fn := fun _ => fun
  | [d1, d2] => { results := [.lit (.bool false)], args := [d1, d2] }
  | _ => none }
def FnExactRestFirstWrongFalsely : Prop := fnExactRestFirstRow.holds Try.pinned (OpenSpec.ofChange fnExactRestFirstWrong)

/-- 'laws.FnExactStarHas': WHATEVER THE INPUT: true; the input reads as it did. -/
def fnExactStarHasSpec : ChangeSpec := { name := "fnExactStarHas", fn := fun _ => fun
  | [d1, d2] => { results := [.lit (.bool true)], args := [d1, d2] }
  | _ => none }
def fnExactStarHasRow : OpenClaim := { program := "ytkjchagikejkpaa", sum := "2c4c17bffdfcf9339769000a7ab20c497da8b764fdfcb561abdfd6aaad8ad500", func := "loop.example/oneletter/laws.FnExactStarHas", spec := "fnExactStarHas", inPlace := ["internal/bytealg.IndexByteString", "internal/bytealg.IndexString"], recurses := true, named := ["internal/bytealg.MaxLen"], apart := false }
def FnExactStarHasSaid : Prop := fnExactStarHasRow.holds Try.pinned (OpenSpec.ofChange fnExactStarHasSpec)

/-- ITS FALSE NEIGHBOUR: 'it returns false'. Refute it at one input. -/
def fnExactStarHasWrong : ChangeSpec := { name := "fnExactStarHas", fn := fun _ => fun
  | [d1, d2] => { results := [.lit (.bool false)], args := [d1, d2] }
  | _ => none }
def FnExactStarHasWrongFalsely : Prop := fnExactStarHasRow.holds Try.pinned (OpenSpec.ofChange fnExactStarHasWrong)

/-- 'laws.FnExactSetSame': WHATEVER THE INPUT: true; the input reads as it did. -/
def fnExactSetSameSpec : ChangeSpec := { name := "fnExactSetSame", fn := fun _ => fun
  | [d1, d2] => { results := [.lit (.bool true)], args := [d1, d2] }
  | _ => none }
def fnExactSetSameRow : OpenClaim := { program := "ytkjchagikejkpaa", sum := "2c4c17bffdfcf9339769000a7ab20c497da8b764fdfcb561abdfd6aaad8ad500", func := "loop.example/oneletter/laws.FnExactSetSame", spec := "fnExactSetSame", inPlace := ["internal/bytealg.IndexByteString", "internal/bytealg.IndexString", "internal/abi.NoEscape"], recurses := true, named := ["internal/bytealg.MaxLen"], apart := false }
def FnExactSetSameSaid : Prop := fnExactSetSameRow.holds Try.pinned (OpenSpec.ofChange fnExactSetSameSpec)

/-- ITS FALSE NEIGHBOUR: 'it returns false'. Refute it at one input. -/
def fnExactSetSameWrong : ChangeSpec := { name := "fnExactSetSame", fn := fun _ => fun
  | [d1, d2] => { results := [.lit (.bool false)], args := [d1, d2] }
  | _ => none }
def FnExactSetSameWrongFalsely : Prop := fnExactSetSameRow.holds Try.pinned (OpenSpec.ofChange fnExactSetSameWrong)

/-- 'laws.FnExactSetTidy': WHATEVER THE INPUT: true; the input reads as it did. -/
def fnExactSetTidySpec : ChangeSpec := { name := "fnExactSetTidy", fn := fun _ => fun
  | [d] => { results := [.lit (.bool true)], args := [d] }
  | _ => none }
def fnExactSetTidyRow : OpenClaim := { program := "ytkjchagikejkpaa", sum := "2c4c17bffdfcf9339769000a7ab20c497da8b764fdfcb561abdfd6aaad8ad500", func := "loop.example/oneletter/laws.FnExactSetTidy", spec := "fnExactSetTidy", inPlace := ["internal/bytealg.IndexByteString", "internal/bytealg.IndexString", "internal/abi.NoEscape"], recurses := true, named := ["internal/bytealg.MaxLen"], apart := false }
def FnExactSetTidySaid : Prop := fnExactSetTidyRow.holds Try.pinned (OpenSpec.ofChange fnExactSetTidySpec)

/-- ITS FALSE NEIGHBOUR: 'it returns false'. Refute it at one input. -/
def fnExactSetTidyWrong : ChangeSpec := { name := "fnExactSetTidy", fn := fun _ => fun
  | [d] => { results := [.lit (.bool false)], args := [d] }
  | _ => none }
def FnExactSetTidyWrongFalsely : Prop := fnExactSetTidyRow.holds Try.pinned (OpenSpec.ofChange fnExactSetTidyWrong)

/-- 'laws.FnSetIn': WHATEVER THE INPUT: true; the input reads as it did. -/
def fnSetInSpec : ChangeSpec := { name := "fnSetIn", fn := fun _ => fun
  | [d] => { results := [.lit (.bool true)], args := [d] }
  | _ => none }
def fnSetInRow : OpenClaim := { program := "ytkjchagikejkpaa", sum := "2c4c17bffdfcf9339769000a7ab20c497da8b764fdfcb561abdfd6aaad8ad500", func := "loop.example/oneletter/laws.FnSetIn", spec := "fnSetIn", inPlace := ["internal/bytealg.IndexByteString", "internal/bytealg.IndexString", "internal/abi.NoEscape"], named := ["internal/bytealg.MaxLen"], apart := false }
def FnSetInSaid : Prop := fnSetInRow.holds Try.pinned (OpenSpec.ofChange fnSetInSpec)

/-- ITS FALSE NEIGHBOUR: 'it returns false'. Refute it at one input. -/
def fnSetInWrong : ChangeSpec := { name := "fnSetIn", fn := fun _ => fun
  | [d] => { results := [.lit (.bool false)], args := [d] }
  | _ => none }
def FnSetInWrongFalsely : Prop := fnSetInRow.holds Try.pinned (OpenSpec.ofChange fnSetInWrong)

/-- 'laws.FnExactMakeUp': WHATEVER THE INPUT: true; the input reads as it did. -/
def fnExactMakeUpSpec : ChangeSpec := { name := "fnExactMakeUp", fn := fun _ => fun
  | [d1, d2] => { results := [.lit (.bool true)], args := [d1, d2] }
  | _ => none }
def fnExactMakeUpRow : OpenClaim := { program := "ytkjchagikejkpaa", sum := "2c4c17bffdfcf9339769000a7ab20c497da8b764fdfcb561abdfd6aaad8ad500", func := "loop.example/oneletter/laws.FnExactMakeUp", spec := "fnExactMakeUp", inPlace := ["internal/bytealg.IndexByteString", "internal/bytealg.IndexString", "internal/abi.NoEscape"], unfollowed := true, recurses := true, named := ["internal/bytealg.MaxLen"], apart := false }
def FnExactMakeUpSaid : Prop := fnExactMakeUpRow.holds Try.pinned (OpenSpec.ofChange fnExactMakeUpSpec)

/-- ITS FALSE NEIGHBOUR: 'it returns false'. Refute it at one input. -/
def fnExactMakeUpWrong : ChangeSpec := { name := "fnExactMakeUp", fn := fun _ => fun
  | [d1, d2] => { results := [.lit (.bool false)], args := [d1, d2] }
  | _ => none }
def FnExactMakeUpWrongFalsely : Prop := fnExactMakeUpRow.holds Try.pinned (OpenSpec.ofChange fnExactMakeUpWrong)

/-- 'laws.FnSetSizes': WHATEVER THE INPUT: true; the input reads as it did. -/
def fnSetSizesSpec : ChangeSpec := { name := "fnSetSizes", fn := fun _ => fun
  | [d] => { results := [.lit (.bool true)], args := [d] }
  | _ => none }
def fnSetSizesRow : OpenClaim := { program := "ytkjchagikejkpaa", sum := "2c4c17bffdfcf9339769000a7ab20c497da8b764fdfcb561abdfd6aaad8ad500", func := "loop.example/oneletter/laws.FnSetSizes", spec := "fnSetSizes", inPlace := ["internal/bytealg.IndexByteString", "internal/bytealg.IndexString", "internal/abi.NoEscape"], recurses := true, named := ["internal/bytealg.MaxLen"], apart := false }
def FnSetSizesSaid : Prop := fnSetSizesRow.holds Try.pinned (OpenSpec.ofChange fnSetSizesSpec)

/-- ITS FALSE NEIGHBOUR: 'it returns false'. Refute it at one input. -/
def fnSetSizesWrong : ChangeSpec := { name := "fnSetSizes", fn := fun _ => fun
  | [d] => { results := [.lit (.bool false)], args := [d] }
  | _ => none }
def FnSetSizesWrongFalsely : Prop := fnSetSizesRow.holds Try.pinned (OpenSpec.ofChange fnSetSizesWrong)

/- THE SECOND FORM. 'bulk': how many values and letters a reading holds, each counted each time it is reached (what is shared counts as often as it is met; a slice's spare places count too). A statement '..UptoSaid' is the law's where the arguments, and the package variables that the reading takes, are together of bulk at most 1048576: NARROWER than '..Said'. Prove '..Said' where nothing that the law and all that it calls make is longer than what came in: it says more and counts as full. Else prove '..UptoSaid'. A law counts once. -/
mutual
def uptoBulk {H : Type} : DataW H → Nat
  | .lit (.string bytes) => bytes.length + 1
  | .lit _ => 1
  | .nil => 1
  | .ptr d => uptoBulk d + 1
  | .slice elems spare => uptoBulkAll elems + uptoBulkAll spare + 1
  | .agg parts => uptoBulkAll parts + 1
  | .iface _ d => uptoBulk d + 1
  | .map entries => uptoBulkEntries entries + 1
  | .held _ => 1
def uptoBulkAll {H : Type} : List (DataW H) → Nat
  | [] => 0
  | d :: r => uptoBulk d + uptoBulkAll r
def uptoBulkEntries {H : Type} : List (Lit × DataW H) → Nat
  | [] => 0
  | x :: r => uptoBulkEntry x + uptoBulkEntries r
def uptoBulkEntry {H : Type} : Lit × DataW H → Nat
  | (.string bytes, d) => bytes.length + uptoBulk d + 1
  | (_, d) => uptoBulk d + 1
 end
def uptoSmall : (H : Type) → List (DataW H) → Bool := fun _ ds => decide (uptoBulkAll ds ≤ 1048576)
def OpenSpec.upto (s : _root_.Go.ChangeSpec) : _root_.Go.OpenSpec := { _root_.Go.OpenSpec.ofChange s with cond := some uptoSmall }

/-- 'laws.FnExactStarGap', WHERE WHAT IT READS IS OF BULK AT MOST 1048576: true; the input reads as it did. -/
def fnExactStarGapUptoRow : OpenClaim := { program := "ytkjchagikejkpaa", sum := "2c4c17bffdfcf9339769000a7ab20c497da8b764fdfcb561abdfd6aaad8ad500", func := "loop.example/oneletter/laws.FnExactStarGap", spec := "fnExactStarGap", inPlace := ["internal/bytealg.IndexByteString", "internal/bytealg.IndexString"], unfollowed := true, recurses := true, named := ["internal/bytealg.MaxLen"], apart := false, narrowed := true }
def FnExactStarGapUptoSaid : Prop := fnExactStarGapUptoRow.holds Try.pinned (OpenSpec.upto fnExactStarGapSpec)

/-- 'laws.FnRestRound', WHERE WHAT IT READS IS OF BULK AT MOST 1048576: true; the input reads as it did. -/
def fnRestRoundUptoRow : OpenClaim := { program := "ytkjchagikejkpaa", sum := "2c4c17bffdfcf9339769000a7ab20c497da8b764fdfcb561abdfd6aaad8ad500", func := "loop.example/oneletter/laws.FnRestRound", spec := "fnRestRound", inPlace := ["internal/bytealg.IndexByteString", "internal/bytealg.IndexString"], recurses := true, named := ["internal/bytealg.MaxLen"], apart := false, narrowed := true }
def FnRestRoundUptoSaid : Prop := fnRestRoundUptoRow.holds Try.pinned (OpenSpec.upto fnRestRoundSpec)

/-- 'laws.FnExactSetIn', WHERE WHAT IT READS IS OF BULK AT MOST 1048576: true; the input reads as it did. -/
def fnExactSetInUptoRow : OpenClaim := { program := "ytkjchagikejkpaa", sum := "2c4c17bffdfcf9339769000a7ab20c497da8b764fdfcb561abdfd6aaad8ad500", func := "loop.example/oneletter/laws.FnExactSetIn", spec := "fnExactSetIn", inPlace := ["internal/bytealg.IndexByteString", "internal/bytealg.IndexString"], named := ["internal/bytealg.MaxLen"], apart := false, narrowed := true }
def FnExactSetInUptoSaid : Prop := fnExactSetInUptoRow.holds Try.pinned (OpenSpec.upto fnExactSetInSpec)

/-- 'laws.FnSetHas', WHERE WHAT IT READS IS OF BULK AT MOST 1048576: true; the input reads as it did. -/
def fnSetHasUptoRow : OpenClaim := { program := "ytkjchagikejkpaa", sum := "2c4c17bffdfcf9339769000a7ab20c497da8b764fdfcb561abdfd6aaad8ad500", func := "loop.example/oneletter/laws.FnSetHas", spec := "fnSetHas", inPlace := ["internal/bytealg.IndexByteString", "internal/bytealg.IndexString", "internal/abi.NoEscape"], named := ["internal/bytealg.MaxLen"], apart := false, narrowed := true }
def FnSetHasUptoSaid : Prop := fnSetHasUptoRow.holds Try.pinned (OpenSpec.upto fnSetHasSpec)

/-- 'laws.FnExactSetHas', WHERE WHAT IT READS IS OF BULK AT MOST 1048576: true; the input reads as it did. -/
def fnExactSetHasUptoRow : OpenClaim := { program := "ytkjchagikejkpaa", sum := "2c4c17bffdfcf9339769000a7ab20c497da8b764fdfcb561abdfd6aaad8ad500", func := "loop.example/oneletter/laws.FnExactSetHas", spec := "fnExactSetHas", inPlace := ["internal/bytealg.IndexByteString", "internal/bytealg.IndexString"], named := ["internal/bytealg.MaxLen"], apart := false, narrowed := true }
def FnExactSetHasUptoSaid : Prop := fnExactSetHasUptoRow.holds Try.pinned (OpenSpec.upto fnExactSetHasSpec)

/-- 'laws.FnExactSetOf', WHERE WHAT IT READS IS OF BULK AT MOST 1048576: true; the input reads as it did. -/
def fnExactSetOfUptoRow : OpenClaim := { program := "ytkjchagikejkpaa", sum := "2c4c17bffdfcf9339769000a7ab20c497da8b764fdfcb561abdfd6aaad8ad500", func := "loop.example/oneletter/laws.FnExactSetOf", spec := "fnExactSetOf", inPlace := ["internal/abi.NoEscape"], unfollowed := true, recurses := true, apart := false, narrowed := true }
def FnExactSetOfUptoSaid : Prop := fnExactSetOfUptoRow.holds Try.pinned (OpenSpec.upto fnExactSetOfSpec)

/-- 'laws.FnExactSetEnds', WHERE WHAT IT READS IS OF BULK AT MOST 1048576: true; the input reads as it did. -/
def fnExactSetEndsUptoRow : OpenClaim := { program := "ytkjchagikejkpaa", sum := "2c4c17bffdfcf9339769000a7ab20c497da8b764fdfcb561abdfd6aaad8ad500", func := "loop.example/oneletter/laws.FnExactSetEnds", spec := "fnExactSetEnds", inPlace := ["internal/bytealg.IndexByteString", "internal/bytealg.IndexString"], named := ["internal/bytealg.MaxLen"], apart := false, narrowed := true }
def FnExactSetEndsUptoSaid : Prop := fnExactSetEndsUptoRow.holds Try.pinned (OpenSpec.upto fnExactSetEndsSpec)

/-- 'laws.FnExactSetFrom', WHERE WHAT IT READS IS OF BULK AT MOST 1048576: true; the input reads as it did. -/
def fnExactSetFromUptoRow : OpenClaim := { program := "ytkjchagikejkpaa", sum := "2c4c17bffdfcf9339769000a7ab20c497da8b764fdfcb561abdfd6aaad8ad500", func := "loop.example/oneletter/laws.FnExactSetFrom", spec := "fnExactSetFrom", inPlace := ["internal/bytealg.IndexByteString", "internal/bytealg.IndexString"], named := ["internal/bytealg.MaxLen"], apart := false, narrowed := true }
def FnExactSetFromUptoSaid : Prop := fnExactSetFromUptoRow.holds Try.pinned (OpenSpec.upto fnExactSetFromSpec)

/-- 'laws.FnExactSetCount', WHERE WHAT IT READS IS OF BULK AT MOST 1048576: true; the input reads as it did. -/
def fnExactSetCountUptoRow : OpenClaim := { program := "ytkjchagikejkpaa", sum := "2c4c17bffdfcf9339769000a7ab20c497da8b764fdfcb561abdfd6aaad8ad500", func := "loop.example/oneletter/laws.FnExactSetCount", spec := "fnExactSetCount", inPlace := ["internal/bytealg.IndexByteString", "internal/bytealg.IndexString"], named := ["internal/bytealg.MaxLen"], apart := false, narrowed := true }
def FnExactSetCountUptoSaid : Prop := fnExactSetCountUptoRow.holds Try.pinned (OpenSpec.upto fnExactSetCountSpec)

/-- 'laws.FnExactSetBelow', WHERE WHAT IT READS IS OF BULK AT MOST 1048576: true; the input reads as it did. -/
def fnExactSetBelowUptoRow : OpenClaim := { program := "ytkjchagikejkpaa", sum := "2c4c17bffdfcf9339769000a7ab20c497da8b764fdfcb561abdfd6aaad8ad500", func := "loop.example/oneletter/laws.FnExactSetBelow", spec := "fnExactSetBelow", inPlace := ["internal/bytealg.IndexByteString", "internal/bytealg.IndexString"], named := ["internal/bytealg.MaxLen"], apart := false, narrowed := true }
def FnExactSetBelowUptoSaid : Prop := fnExactSetBelowUptoRow.holds Try.pinned (OpenSpec.upto fnExactSetBelowSpec)

/-- 'laws.FnExactSetSizes', WHERE WHAT IT READS IS OF BULK AT MOST 1048576: true; the input reads as it did. -/
def fnExactSetSizesUptoRow : OpenClaim := { program := "ytkjchagikejkpaa", sum := "2c4c17bffdfcf9339769000a7ab20c497da8b764fdfcb561abdfd6aaad8ad500", func := "loop.example/oneletter/laws.FnExactSetSizes", spec := "fnExactSetSizes", inPlace := ["internal/bytealg.IndexByteString", "internal/bytealg.IndexString"], recurses := true, named := ["internal/bytealg.MaxLen"], apart := false, narrowed := true }
def FnExactSetSizesUptoSaid : Prop := fnExactSetSizesUptoRow.holds Try.pinned (OpenSpec.upto fnExactSetSizesSpec)

/-- 'laws.FnExactSetList', WHERE WHAT IT READS IS OF BULK AT MOST 1048576: true; the input reads as it did. -/
def fnExactSetListUptoRow : OpenClaim := { program := "ytkjchagikejkpaa", sum := "2c4c17bffdfcf9339769000a7ab20c497da8b764fdfcb561abdfd6aaad8ad500", func := "loop.example/oneletter/laws.FnExactSetList", spec := "fnExactSetList", inPlace := ["internal/bytealg.IndexByteString", "internal/bytealg.IndexString"], named := ["internal/bytealg.MaxLen"], apart := false, narrowed := true }
def FnExactSetListUptoSaid : Prop := fnExactSetListUptoRow.holds Try.pinned (OpenSpec.upto fnExactSetListSpec)

/-- 'laws.FnSetFrom', WHERE WHAT IT READS IS OF BULK AT MOST 1048576: true; the input reads as it did. -/
def fnSetFromUptoRow : OpenClaim := { program := "ytkjchagikejkpaa", sum := "2c4c17bffdfcf9339769000a7ab20c497da8b764fdfcb561abdfd6aaad8ad500", func := "loop.example/oneletter/laws.FnSetFrom", spec := "fnSetFrom", inPlace := ["internal/bytealg.IndexByteString", "internal/bytealg.IndexString"], named := ["internal/bytealg.MaxLen"], apart := false, narrowed := true }
def FnSetFromUptoSaid : Prop := fnSetFromUptoRow.holds Try.pinned (OpenSpec.upto fnSetFromSpec)

/-- 'laws.FnSetEnds', WHERE WHAT IT READS IS OF BULK AT MOST 1048576: true; the input reads as it did. -/
def fnSetEndsUptoRow : OpenClaim := { program := "ytkjchagikejkpaa", sum := "2c4c17bffdfcf9339769000a7ab20c497da8b764fdfcb561abdfd6aaad8ad500", func := "loop.example/oneletter/laws.FnSetEnds", spec := "fnSetEnds", inPlace := ["internal/bytealg.IndexByteString", "internal/bytealg.IndexString"], named := ["internal/bytealg.MaxLen"], apart := false, narrowed := true }
def FnSetEndsUptoSaid : Prop := fnSetEndsUptoRow.holds Try.pinned (OpenSpec.upto fnSetEndsSpec)

/-- 'laws.FnSetCount', WHERE WHAT IT READS IS OF BULK AT MOST 1048576: true; the input reads as it did. -/
def fnSetCountUptoRow : OpenClaim := { program := "ytkjchagikejkpaa", sum := "2c4c17bffdfcf9339769000a7ab20c497da8b764fdfcb561abdfd6aaad8ad500", func := "loop.example/oneletter/laws.FnSetCount", spec := "fnSetCount", inPlace := ["internal/bytealg.IndexByteString", "internal/bytealg.IndexString"], named := ["internal/bytealg.MaxLen"], apart := false, narrowed := true }
def FnSetCountUptoSaid : Prop := fnSetCountUptoRow.holds Try.pinned (OpenSpec.upto fnSetCountSpec)

/-- 'laws.FnExactRestRound', WHERE WHAT IT READS IS OF BULK AT MOST 1048576: true; the input reads as it did. -/
def fnExactRestRoundUptoRow : OpenClaim := { program := "ytkjchagikejkpaa", sum := "2c4c17bffdfcf9339769000a7ab20c497da8b764fdfcb561abdfd6aaad8ad500", func := "loop.example/oneletter/laws.FnExactRestRound", spec := "fnExactRestRound", inPlace := ["internal/bytealg.IndexByteString", "internal/bytealg.IndexString"], recurses := true, named := ["internal/bytealg.MaxLen"], apart := false, narrowed := true }
def FnExactRestRoundUptoSaid : Prop := fnExactRestRoundUptoRow.holds Try.pinned (OpenSpec.upto fnExactRestRoundSpec)

/-- 'laws.FnExactMachSet', WHERE WHAT IT READS IS OF BULK AT MOST 1048576: true; the input reads as it did. -/
def fnExactMachSetUptoRow : OpenClaim := { program := "ytkjchagikejkpaa", sum := "2c4c17bffdfcf9339769000a7ab20c497da8b764fdfcb561abdfd6aaad8ad500", func := "loop.example/oneletter/laws.FnExactMachSet", spec := "fnExactMachSet", inPlace := ["internal/abi.NoEscape"], unfollowed := true, recurses := true, apart := false, narrowed := true }
def FnExactMachSetUptoSaid : Prop := fnExactMachSetUptoRow.holds Try.pinned (OpenSpec.upto fnExactMachSetSpec)

/-- 'laws.FnExactRestSame', WHERE WHAT IT READS IS OF BULK AT MOST 1048576: true; the input reads as it did. -/
def fnExactRestSameUptoRow : OpenClaim := { program := "ytkjchagikejkpaa", sum := "2c4c17bffdfcf9339769000a7ab20c497da8b764fdfcb561abdfd6aaad8ad500", func := "loop.example/oneletter/laws.FnExactRestSame", spec := "fnExactRestSame", inPlace := ["internal/bytealg.IndexByteString", "internal/bytealg.IndexString"], recurses := true, named := ["internal/bytealg.MaxLen"], apart := false, narrowed := true }
def FnExactRestSameUptoSaid : Prop := fnExactRestSameUptoRow.holds Try.pinned (OpenSpec.upto fnExactRestSameSpec)

/-- 'laws.FnSetCounts', WHERE WHAT IT READS IS OF BULK AT MOST 1048576: true; the input reads as it did. -/
def fnSetCountsUptoRow : OpenClaim := { program := "ytkjchagikejkpaa", sum := "2c4c17bffdfcf9339769000a7ab20c497da8b764fdfcb561abdfd6aaad8ad500", func := "loop.example/oneletter/laws.FnSetCounts", spec := "fnSetCounts", inPlace := ["internal/bytealg.IndexByteString", "internal/bytealg.IndexString"], named := ["internal/bytealg.MaxLen"], apart := false, narrowed := true }
def FnSetCountsUptoSaid : Prop := fnSetCountsUptoRow.holds Try.pinned (OpenSpec.upto fnSetCountsSpec)

/-- 'laws.FnExactRestMany', WHERE WHAT IT READS IS OF BULK AT MOST 1048576: true; the input reads as it did. -/
def fnExactRestManyUptoRow : OpenClaim := { program := "ytkjchagikejkpaa", sum := "2c4c17bffdfcf9339769000a7ab20c497da8b764fdfcb561abdfd6aaad8ad500", func := "loop.example/oneletter/laws.FnExactRestMany", spec := "fnExactRestMany", inPlace := ["internal/bytealg.IndexByteString", "internal/bytealg.IndexString"], recurses := true, named := ["internal/bytealg.MaxLen"], apart := false, narrowed := true }
def FnExactRestManyUptoSaid : Prop := fnExactRestManyUptoRow.holds Try.pinned (OpenSpec.upto fnExactRestManySpec)

/-- 'laws.FnSetList', WHERE WHAT IT READS IS OF BULK AT MOST 1048576: true; the input reads as it did. -/
def fnSetListUptoRow : OpenClaim := { program := "ytkjchagikejkpaa", sum := "2c4c17bffdfcf9339769000a7ab20c497da8b764fdfcb561abdfd6aaad8ad500", func := "loop.example/oneletter/laws.FnSetList", spec := "fnSetList", inPlace := ["internal/bytealg.IndexByteString", "internal/bytealg.IndexString"], named := ["internal/bytealg.MaxLen"], apart := false, narrowed := true }
def FnSetListUptoSaid : Prop := fnSetListUptoRow.holds Try.pinned (OpenSpec.upto fnSetListSpec)

/-- 'laws.FnSetBelow', WHERE WHAT IT READS IS OF BULK AT MOST 1048576: true; the input reads as it did. -/
def fnSetBelowUptoRow : OpenClaim := { program := "ytkjchagikejkpaa", sum := "2c4c17bffdfcf9339769000a7ab20c497da8b764fdfcb561abdfd6aaad8ad500", func := "loop.example/oneletter/laws.FnSetBelow", spec := "fnSetBelow", inPlace := ["internal/bytealg.IndexByteString", "internal/bytealg.IndexString"], named := ["internal/bytealg.MaxLen"], apart := false, narrowed := true }
def FnSetBelowUptoSaid : Prop := fnSetBelowUptoRow.holds Try.pinned (OpenSpec.upto fnSetBelowSpec)

/-- 'laws.FnExactRestFirst', WHERE WHAT IT READS IS OF BULK AT MOST 1048576: true; the input reads as it did. -/
def fnExactRestFirstUptoRow : OpenClaim := { program := "ytkjchagikejkpaa", sum := "2c4c17bffdfcf9339769000a7ab20c497da8b764fdfcb561abdfd6aaad8ad500", func := "loop.example/oneletter/laws.FnExactRestFirst", spec := "fnExactRestFirst", inPlace := ["internal/bytealg.IndexByteString", "internal/bytealg.IndexString"], recurses := true, named := ["internal/bytealg.MaxLen"], apart := false, narrowed := true }
def FnExactRestFirstUptoSaid : Prop := fnExactRestFirstUptoRow.holds Try.pinned (OpenSpec.upto fnExactRestFirstSpec)

/-- 'laws.FnExactStarHas', WHERE WHAT IT READS IS OF BULK AT MOST 1048576: true; the input reads as it did. -/
def fnExactStarHasUptoRow : OpenClaim := { program := "ytkjchagikejkpaa", sum := "2c4c17bffdfcf9339769000a7ab20c497da8b764fdfcb561abdfd6aaad8ad500", func := "loop.example/oneletter/laws.FnExactStarHas", spec := "fnExactStarHas", inPlace := ["internal/bytealg.IndexByteString", "internal/bytealg.IndexString"], recurses := true, named := ["internal/bytealg.MaxLen"], apart := false, narrowed := true }
def FnExactStarHasUptoSaid : Prop := fnExactStarHasUptoRow.holds Try.pinned (OpenSpec.upto fnExactStarHasSpec)

/-- 'laws.FnExactSetSame', WHERE WHAT IT READS IS OF BULK AT MOST 1048576: true; the input reads as it did. -/
def fnExactSetSameUptoRow : OpenClaim := { program := "ytkjchagikejkpaa", sum := "2c4c17bffdfcf9339769000a7ab20c497da8b764fdfcb561abdfd6aaad8ad500", func := "loop.example/oneletter/laws.FnExactSetSame", spec := "fnExactSetSame", inPlace := ["internal/bytealg.IndexByteString", "internal/bytealg.IndexString", "internal/abi.NoEscape"], recurses := true, named := ["internal/bytealg.MaxLen"], apart := false, narrowed := true }
def FnExactSetSameUptoSaid : Prop := fnExactSetSameUptoRow.holds Try.pinned (OpenSpec.upto fnExactSetSameSpec)

/-- 'laws.FnExactSetTidy', WHERE WHAT IT READS IS OF BULK AT MOST 1048576: true; the input reads as it did. -/
def fnExactSetTidyUptoRow : OpenClaim := { program := "ytkjchagikejkpaa", sum := "2c4c17bffdfcf9339769000a7ab20c497da8b764fdfcb561abdfd6aaad8ad500", func := "loop.example/oneletter/laws.FnExactSetTidy", spec := "fnExactSetTidy", inPlace := ["internal/bytealg.IndexByteString", "internal/bytealg.IndexString", "internal/abi.NoEscape"], recurses := true, named := ["internal/bytealg.MaxLen"], apart := false, narrowed := true }
def FnExactSetTidyUptoSaid : Prop := fnExactSetTidyUptoRow.holds Try.pinned (OpenSpec.upto fnExactSetTidySpec)

/-- 'laws.FnSetIn', WHERE WHAT IT READS IS OF BULK AT MOST 1048576: true; the input reads as it did. -/
def fnSetInUptoRow : OpenClaim := { program := "ytkjchagikejkpaa", sum := "2c4c17bffdfcf9339769000a7ab20c497da8b764fdfcb561abdfd6aaad8ad500", func := "loop.example/oneletter/laws.FnSetIn", spec := "fnSetIn", inPlace := ["internal/bytealg.IndexByteString", "internal/bytealg.IndexString", "internal/abi.NoEscape"], named := ["internal/bytealg.MaxLen"], apart := false, narrowed := true }
def FnSetInUptoSaid : Prop := fnSetInUptoRow.holds Try.pinned (OpenSpec.upto fnSetInSpec)

/-- 'laws.FnExactMakeUp', WHERE WHAT IT READS IS OF BULK AT MOST 1048576: true; the input reads as it did. -/
def fnExactMakeUpUptoRow : OpenClaim := { program := "ytkjchagikejkpaa", sum := "2c4c17bffdfcf9339769000a7ab20c497da8b764fdfcb561abdfd6aaad8ad500", func := "loop.example/oneletter/laws.FnExactMakeUp", spec := "fnExactMakeUp", inPlace := ["internal/bytealg.IndexByteString", "internal/bytealg.IndexString", "internal/abi.NoEscape"], unfollowed := true, recurses := true, named := ["internal/bytealg.MaxLen"], apart := false, narrowed := true }
def FnExactMakeUpUptoSaid : Prop := fnExactMakeUpUptoRow.holds Try.pinned (OpenSpec.upto fnExactMakeUpSpec)

/-- 'laws.FnSetSizes', WHERE WHAT IT READS IS OF BULK AT MOST 1048576: true; the input reads as it did. -/
def fnSetSizesUptoRow : OpenClaim := { program := "ytkjchagikejkpaa", sum := "2c4c17bffdfcf9339769000a7ab20c497da8b764fdfcb561abdfd6aaad8ad500", func := "loop.example/oneletter/laws.FnSetSizes", spec := "fnSetSizes", inPlace := ["internal/bytealg.IndexByteString", "internal/bytealg.IndexString", "internal/abi.NoEscape"], recurses := true, named := ["internal/bytealg.MaxLen"], apart := false, narrowed := true }
def FnSetSizesUptoSaid : Prop := fnSetSizesUptoRow.holds Try.pinned (OpenSpec.upto fnSetSizesSpec)

end Rows
end Go.Proofs.Ytkjchagikejkpaa
