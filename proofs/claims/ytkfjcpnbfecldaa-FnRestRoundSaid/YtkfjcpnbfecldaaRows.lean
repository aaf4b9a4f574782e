/-
  No cell of these rows narrows 'for every input' (looked for: loops, veiled, ifaces, maps, wideKeys, modest, calm, conditions, laid).
  DERIVED. THE GIVEN ROWS OF THIS SEAT. 8 by the template 'for every input the law returns true; each argument reads behind the call as it read before'; 0 by the template 'total and deterministic' (their statements: YtkfjcpnbfecldaaTotals.lean).
  GIVEN WITH THE SEED: the statements are not yours to turn. If you find one false, say at which input.
  Laid BY PROGRAM, IN A SANDBOX (cutbox-rows.mjs): the forced cells as the released guide's own fill.sh prints them over the translation 81ea8c192c0bc581… (all of the seat's roots in one cut). By AI agents, Wed Nov 11 2026. No macro, syntax, notation, axiom, sorry.
-/
import Derived.Test.YtkfjcpnbfecldaaChecked
import GoSem.Claim
import GoSem.ClaimJoined
import GoSem.ClaimMapViews
import Derived.JoinedTies
import Derived.KernelRfl
namespace Go.Proofs.Ytkfjcpnbfecldaa
/- THE CELL 'sum', in the pinned program and in every row, IS THE sha256 OF THE DUMP (.gsa) THAT YtkfjcpnbfecldaaProg.lean LOADS. Nothing in Lean hashes anything: it is a label: what it is worth is what the hold of that sum in a sandbox is worth. -/
noncomputable def Try.pinned : Pinned := { name := "ytkfjcpnbfecldaa", sum := "81ea8c192c0bc581b1a34889c304bbcda4f4a5f7bf8f143740af26cce1685fca", checked := Try.checked }
namespace Rows
def none {H : Type} : Left H := { results := [], args := [] }

/-- 'laws.FnExactSetSizes': WHATEVER THE INPUT: true; the input reads as it did. -/
def fnExactSetSizesSpec : ChangeSpec := { name := "fnExactSetSizes", fn := fun _ => fun
  | [d] => { results := [.lit (.bool true)], args := [d] }
  | _ => none }
def fnExactSetSizesRow : OpenClaim := { program := "ytkfjcpnbfecldaa", sum := "81ea8c192c0bc581b1a34889c304bbcda4f4a5f7bf8f143740af26cce1685fca", func := "loop.example/oneletter/laws.FnExactSetSizes", spec := "fnExactSetSizes", inPlace := ["internal/bytealg.IndexByteString", "internal/bytealg.IndexString"], recurses := true, named := ["internal/bytealg.MaxLen"], apart := false }
def FnExactSetSizesSaid : Prop := fnExactSetSizesRow.holds Try.pinned (OpenSpec.ofChange fnExactSetSizesSpec)

/-- ITS FALSE NEIGHBOUR: 'it returns false'. Refute it at one input. -/
def fnExactSetSizesWrong : ChangeSpec := { name := "fnExactSetSizes", fn := fun _ => fun
  | [d] => { results := [.lit (.bool false)], args := [d] }
  | _ => none }
def FnExactSetSizesWrongFalsely : Prop := fnExactSetSizesRow.holds Try.pinned (OpenSpec.ofChange fnExactSetSizesWrong)

/-- 'laws.FnExactRestRound': WHATEVER THE INPUT: true; the input reads as it did. -/
def fnExactRestRoundSpec : ChangeSpec := { name := "fnExactRestRound", fn := fun _ => fun
  | [d] => { results := [.lit (.bool true)], args := [d] }
  | _ => none }
def fnExactRestRoundRow : OpenClaim := { program := "ytkfjcpnbfecldaa", sum := "81ea8c192c0bc581b1a34889c304bbcda4f4a5f7bf8f143740af26cce1685fca", func := "loop.example/oneletter/laws.FnExactRestRound", spec := "fnExactRestRound", inPlace := ["internal/bytealg.IndexByteString", "internal/bytealg.IndexString"], recurses := true, named := ["internal/bytealg.MaxLen"], apart := false }
def FnExactRestRoundSaid : Prop := fnExactRestRoundRow.holds Try.pinned (OpenSpec.ofChange fnExactRestRoundSpec)

/-- ITS FALSE NEIGHBOUR: 'it returns false'. Refute it at one input. -/
def fnExactRestRoundWrong : ChangeSpec := { name := "fnExactRestRound", fn := fun _ => fun
  | [d] => { results := [.lit (.bool false)], args := [d] }
  | _ => none }
def FnExactRestRoundWrongFalsely : Prop := fnExactRestRoundRow.holds Try.pinned (OpenSpec.ofChange fnExactRestRoundWrong)

/-- 'laws.FnExactRestMany': WHATEVER THE INPUT: true; the input reads as it did. -/
def fnExactRestManySpec : ChangeSpec := { name := "fnExactRestMany", fn := fun _ => fun
  | [d] => { results := [.lit (.bool true)], args := [d] }
  | _ => none }
def fnExactRestManyRow : OpenClaim := { program := "ytkfjcpnbfecldaa", sum := "81ea8c192c0bc581b1a34889c304bbcda4f4a5f7bf8f143740af26cce1685fca", func := "loop.example/oneletter/laws.FnExactRestMany", spec := "fnExactRestMany", inPlace := ["internal/bytealg.IndexByteString", "internal/bytealg.IndexString"], recurses := true, named := ["internal/bytealg.MaxLen"], apart := false }
def FnExactRestManySaid : Prop := fnExactRestManyRow.holds Try.pinned (OpenSpec.ofChange fnExactRestManySpec)

/-- ITS FALSE NEIGHBOUR: 'it returns false'. Refute it at one input. -/
def fnExactRestManyWrong : ChangeSpec := { name := "fnExactRestMany", fn := fun _ => fun
  | [d] => { results := [.lit (.bool false)], args := [d] }
  | _ => none }
def FnExactRestManyWrongFalsely : Prop := fnExactRestManyRow.holds Try.pinned (OpenSpec.ofChange fnExactRestManyWrong)

/-- 'laws.FnExactRestSame': WHATEVER THE INPUT: true; the input reads as it did. -/
def fnExactRestSameSpec : ChangeSpec := { name := "fnExactRestSame", fn := fun _ => fun
  | [d1, d2, d3] => { results := [.lit (.bool true)], args := [d1, d2, d3] }
  | _ => none }
def fnExactRestSameRow : OpenClaim := { program := "ytkfjcpnbfecldaa", sum := "81ea8c192c0bc581b1a34889c304bbcda4f4a5f7bf8f143740af26cce1685fca", func := "loop.example/oneletter/laws.FnExactRestSame", spec := "fnExactRestSame", inPlace := ["internal/bytealg.IndexByteString", "internal/bytealg.IndexString"], recurses := true, named := ["internal/bytealg.MaxLen"], apart := false }
def FnExactRestSameSaid : Prop := fnExactRestSameRow.holds Try.pinned (OpenSpec.ofChange fnExactRestSameSpec)

/-- ITS FALSE NEIGHBOUR: 'it returns false'. Refute it at one input. -/
def fnExactRestSameWrong : ChangeSpec := { name := "fnExactRestSame", fn := fun _ => fun
  | [d1, d2, d3] => { results := [.lit (.bool false)], args := [d1, d2, d3] }
  | _ => none }
def FnExactRestSameWrongFalsely : Prop := fnExactRestSameRow.holds Try.pinned (OpenSpec.ofChange fnExactRestSameWrong)

/-- 'laws.FnExactRestFirst': WHATEVER THE INPUT: true; the input reads as it did. -/
def fnExactRestFirstSpec : ChangeSpec := { name := "fnExactRestFirst", fn := fun _ => fun
  | [d1, d2] => { results := [.lit (.bool true)], args := [d1, d2] }
  | _ => none }
def fnExactRestFirstRow : OpenClaim := { program := "ytkfjcpnbfecldaa", sum := "81ea8c192c0bc581b1a34889c304bbcda4f4a5f7bf8f143740af26cce1685fca", func := "loop.example/oneletter/laws.FnExactRestFirst", spec := "fnExactRestFirst", inPlace := ["internal/bytealg.IndexByteString", "internal/bytealg.IndexString"], recurses := true, named := ["internal/bytealg.MaxLen"], apart := false }
def FnExactRestFirstSaid : Prop := fnExactRestFirstRow.holds Try.pinned (OpenSpec.ofChange fnExactRestFirstSpec)

/-- ITS FALSE NEIGHBOUR: 'it returns false'. Refute it at one input. -/
def fnExactRestFirstWrong : ChangeSpec := { name := "fnExactRestFirst", fn := fun _ => fun
  | [d1, d2] => { results := [.lit (.bool false)], args := [d1, d2] }
  | _ => none }
def FnExactRestFirstWrongFalsely : Prop := fnExactRestFirstRow.holds Try.pinned (OpenSpec.ofChange fnExactRestFirstWrong)

/-- 'laws.FnRestRound': WHATEVER THE INPUT: true; the input reads as it did. -/
def fnRestRoundSpec : ChangeSpec := { name := "fnRestRound", fn := fun _ => fun
  | [d] => { results := [.lit (.bool true)], args := [d] }
  | _ => none }
def fnRestRoundRow : OpenClaim := { program := "ytkfjcpnbfecldaa", sum := "81ea8c192c0bc581b1a34889c304bbcda4f4a5f7bf8f143740af26cce1685fca", func := "loop.example/oneletter/laws.FnRestRound", spec := "fnRestRound", inPlace := ["internal/bytealg.IndexByteString", "internal/bytealg.IndexString"], recurses := true, named := ["internal/bytealg.MaxLen"], apart := false }
def FnRestRoundSaid : Prop := fnRestRoundRow.holds Try.pinned (OpenSpec.ofChange fnRestRoundSpec)

/-- ITS FALSE NEIGHBOUR: 'it returns false'. Refute it at one input. -/
def fnRestRoundWrong : ChangeSpec := { name := "fnRestRound", fn := fun _ => fun
  | [d] => { results := [.lit (.bool false)], args := [d] }
  | _ => none }
def FnRestRoundWrongFalsely : Prop := fnRestRoundRow.holds Try.pinned (OpenSpec.ofChange fnRestRoundWrong)

/-- 'laws.FnExactStarHas': WHATEVER THE INPUT: true; the input reads as it did. -/
def fnExactStarHasSpec : ChangeSpec := { name := "fnExactStarHas", fn := fun _ => fun
  | [d1, d2] => { results := [.lit (.bool true)], args := [d1, d2] }
  | _ => none }
def fnExactStarHasRow : OpenClaim := { program := "ytkfjcpnbfecldaa", sum := "81ea8c192c0bc581b1a34889c304bbcda4f4a5f7bf8f143740af26cce1685fca", func := "loop.example/oneletter/laws.FnExactStarHas", spec := "fnExactStarHas", inPlace := ["internal/bytealg.IndexByteString", "internal/bytealg.IndexString"], recurses := true, named := ["internal/bytealg.MaxLen"], apart := false }
def FnExactStarHasSaid : Prop := fnExactStarHasRow.holds Try.pinned (OpenSpec.ofChange fnExactStarHasSpec)

/-- ITS FALSE NEIGHBOUR: 'it returns false'. Refute it at one input. -/
def fnExactStarHasWrong : ChangeSpec := { name := "fnExactStarHas", fn := fun _ => fun
  | [d1, d2] => { results := [.lit (.bool false)], args := [d1, d2] }
  | _ => none }
def FnExactStarHasWrongFalsely : Prop := fnExactStarHasRow.holds Try.pinned (OpenSpec.ofChange fnExactStarHasWrong)

/-- 'laws.FnExactStarGap': WHATEVER THE INPUT: true; the input reads as it did. -/
def fnExactStarGapSpec : ChangeSpec := { name := "fnExactStarGap", fn := fun _ => fun
  | [d] => { results := [.lit (.bool true)], args := [d] }
  | _ => none }
def fnExactStarGapRow : OpenClaim := { program := "ytkfjcpnbfecldaa", sum := "81ea8c192c0bc581b1a34889c304bbcda4f4a5f7bf8f143740af26cce1685fca", func := "loop.example/oneletter/laws.FnExactStarGap", spec := "fnExactStarGap", inPlace := ["internal/bytealg.IndexByteString", "internal/bytealg.IndexString"], unfollowed := true, recurses := true, named := ["internal/bytealg.MaxLen"], apart := false }
def FnExactStarGapSaid : Prop := fnExactStarGapRow.holds Try.pinned (OpenSpec.ofChange fnExactStarGapSpec)

/-- ITS FALSE NEIGHBOUR: 'it returns false'. Refute it at one input. -/
def fnExactStarGapWrong : ChangeSpec := { name := "fnExactStarGap", fn := fun _ => fun
  | [d] => { results := [.lit (.bool false)], args := [d] }
  | _ => none }
def FnExactStarGapWrongFalsely : Prop := fnExactStarGapRow.holds Try.pinned (OpenSpec.ofChange fnExactStarGapWrong)

/- THE SECOND FORM. 'bulk': how many values and letters a reading holds, each counted each time it is reached (what is shared counts as often as it is met; a slice's spare places count too). A statement '..UptoSaid' is the law's where the arguments, and the package variables that the reading takes, are together of bulk at most 1048576: NARROWER than '..Said'. Prove '..Said' where nothing that the law and all that it calls make is longer than what came in: it says more and counts as full. Else prove '..UptoSaid'. A law counts once. -/
mutual
def uptoBulk {H : Type} : DataW H → Nat
  | .lit (.string bytes) => bytes.length + 1
  | .lit _ => 1
  | .nil => 1
  | .ptr d => uptoBulk d + 1
  | .slice elems spare => uptoBulkAll elems + uptoBulkAll spare + 1
  | .agg parts => uptoBulkAll parts + 1
  | .iface _ d => uptoBulk d + 1
  | .map entries => uptoBulkEntries entries + 1
  | .held _ => 1
def uptoBulkAll {H : Type} : List (DataW H) → Nat
  | [] => 0
  | d :: r => uptoBulk d + uptoBulkAll r
def uptoBulkEntries {H : Type} : List (Lit × DataW H) → Nat
  | [] => 0
  | x :: r => uptoBulkEntry x + uptoBulkEntries r
def uptoBulkEntry {H : Type} : Lit × DataW H → Nat
  | (.string bytes, d) => bytes.length + uptoBulk d + 1
  | (_, d) => uptoBulk d + 1
 end
def uptoSmall : (H : Type) → List (DataW H) → Bool := fun _ ds => decide (uptoBulkAll ds ≤ 1048576)
def OpenSpec.upto (s : _root_.Go.ChangeSpec) : _root_.Go.OpenSpec := { _root_.Go.OpenSpec.ofChange s with cond := some uptoSmall }

/-- 'laws.FnExactSetSizes', WHERE WHAT IT READS IS OF BULK AT MOST 1048576: true; the input reads as it did. -/
def fnExactSetSizesUptoRow : OpenClaim := { program := "ytkfjcpnbfecldaa", sum := "81ea8c192c0bc581b1a34889c304bbcda4f4a5f7bf8f143740af26cce1685fca", func := "loop.example/oneletter/laws.FnExactSetSizes", spec := "fnExactSetSizes", inPlace := ["internal/bytealg.IndexByteString", "internal/bytealg.IndexString"], recurses := true, named := ["internal/bytealg.MaxLen"], apart := false, narrowed := true }
def FnExactSetSizesUptoSaid : Prop := fnExactSetSizesUptoRow.holds Try.pinned (OpenSpec.upto fnExactSetSizesSpec)

/-- 'laws.FnExactRestRound', WHERE WHAT IT READS IS OF BULK AT MOST 1048576: true; the input reads as it did. -/
def fnExactRestRoundUptoRow : OpenClaim := { program := "ytkfjcpnbfecldaa", sum := "81ea8c192c0bc581b1a34889c304bbcda4f4a5f7bf8f143740af26cce1685fca", func := "loop.example/oneletter/laws.FnExactRestRound", spec := "fnExactRestRound", inPlace := ["internal/bytealg.IndexByteString", "internal/bytealg.IndexString"], recurses := true, named := ["internal/bytealg.MaxLen"], apart := false, narrowed := true }
def FnExactRestRoundUptoSaid : Prop := fnExactRestRoundUptoRow.holds Try.pinned (OpenSpec.upto fnExactRestRoundSpec)

/-- 'laws.FnExactRestMany', WHERE WHAT IT READS IS OF BULK AT MOST 1048576: true; the input reads as it did. -/
def fnExactRestManyUptoRow : OpenClaim := { program := "ytkfjcpnbfecldaa", sum := "81ea8c192c0bc581b1a34889c304bbcda4f4a5f7bf8f143740af26cce1685fca", func := "loop.example/oneletter/laws.FnExactRestMany", spec := "fnExactRestMany", inPlace := ["internal/bytealg.IndexByteString", "internal/bytealg.IndexString"], recurses := true, named := ["internal/bytealg.MaxLen"], apart := false, narrowed := true }
def FnExactRestManyUptoSaid : Prop := fnExactRestManyUptoRow.holds Try.pinned (OpenSpec.upto fnExactRestManySpec)

/-- 'laws.FnExactRestSame', WHERE WHAT IT READS IS OF BULK AT MOST 1048576: true; the input reads as it did. -/
def fnExactRestSameUptoRow : OpenClaim := { program := "ytkfjcpnbfecldaa", sum := "81ea8c192c0bc581b1a34889c304bbcda4f4a5f7bf8f143740af26cce1685fca", func := "loop.example/oneletter/laws.FnExactRestSame", spec := "fnExactRestSame", inPlace := ["internal/bytealg.IndexByteString", "internal/bytealg.IndexString"], recurses := true, named := ["internal/bytealg.MaxLen"], apart := false, narrowed := true }
def FnExactRestSameUptoSaid : Prop := fnExactRestSameUptoRow.holds Try.pinned (OpenSpec.upto fnExactRestSameSpec)

/-- 'laws.FnExactRestFirst', WHERE WHAT IT READS IS OF BULK AT MOST 1048576: true; the input reads as it did. -/
def fnExactRestFirstUptoRow : OpenClaim := { program := "ytkfjcpnbfecldaa", sum := "81ea8c192c0bc581b1a34889c304bbcda4f4a5f7bf8f143740af26cce1685fca", func := "loop.example/oneletter/laws.FnExactRestFirst", spec := "fnExactRestFirst", inPlace := ["internal/bytealg.IndexByteString", "internal/bytealg.IndexString"], recurses := true, named := ["internal/bytealg.MaxLen"], apart := false, narrowed := true }
def FnExactRestFirstUptoSaid : Prop := fnExactRestFirstUptoRow.holds Try.pinned (OpenSpec.upto fnExactRestFirstSpec)

/-- 'laws.FnRestRound', WHERE WHAT IT READS IS OF BULK AT MOST 1048576: true; the input reads as it did. -/
def fnRestRoundUptoRow : OpenClaim := { program := "ytkfjcpnbfecldaa", sum := "81ea8c192c0bc581b1a34889c304bbcda4f4a5f7bf8f143740af26cce1685fca", func := "loop.example/oneletter/laws.FnRestRound", spec := "fnRestRound", inPlace := ["internal/bytealg.IndexByteString", "internal/bytealg.IndexString"], recurses := true, named := ["internal/bytealg.MaxLen"], apart := false, narrowed := true }
def FnRestRoundUptoSaid : Prop := fnRestRoundUptoRow.holds Try.pinned (OpenSpec.upto fnRestRoundSpec)

/-- 'laws.FnExactStarHas', WHERE WHAT IT READS IS OF BULK AT MOST 1048576: true; the input reads as it did. -/
def fnExactStarHasUptoRow : OpenClaim := { program := "ytkfjcpnbfecldaa", sum := "81ea8c192c0bc581b1a34889c304bbcda4f4a5f7bf8f143740af26cce1685fca", func := "loop.example/oneletter/laws.FnExactStarHas", spec := "fnExactStarHas", inPlace := ["internal/bytealg.IndexByteString", "internal/bytealg.IndexString"], recurses := true, named := ["internal/bytealg.MaxLen"], apart := false, narrowed := true }
def FnExactStarHasUptoSaid : Prop := fnExactStarHasUptoRow.holds Try.pinned (OpenSpec.upto fnExactStarHasSpec)

/-- 'laws.FnExactStarGap', WHERE WHAT IT READS IS OF BULK AT MOST 1048576: true; the input reads as it did. -/
def fnExactStarGapUptoRow : OpenClaim := { program := "ytkfjcpnbfecldaa", sum := "81ea8c192c0bc581b1a34889c304bbcda4f4a5f7bf8f143740af26cce1685fca", func := "loop.example/oneletter/laws.FnExactStarGap", spec := "fnExactStarGap", inPlace := ["internal/bytealg.IndexByteString", "internal/bytealg.IndexString"], unfollowed := true, recurses := true, named := ["internal/bytealg.MaxLen"], apart := false, narrowed := true }
def FnExactStarGapUptoSaid : Prop := fnExactStarGapUptoRow.holds Try.pinned (OpenSpec.upto fnExactStarGapSpec)

end Rows
end Go.Proofs.Ytkfjcpnbfecldaa
