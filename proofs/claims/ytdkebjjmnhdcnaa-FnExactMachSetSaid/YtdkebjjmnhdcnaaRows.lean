/-
  No cell of these rows narrows 'for every input' (looked for: loops, veiled, ifaces, maps, wideKeys, modest, calm, conditions, laid).
  DERIVED. THE GIVEN ROWS OF THIS SEAT. 8 by the template 'for every input the law returns true; each argument reads behind the call as it read before'; 0 by the template 'total and deterministic' (their statements: YtdkebjjmnhdcnaaTotals.lean).
  GIVEN WITH THE SEED: the statements are not yours to turn. If you find one false, say at which input.
  Laid BY PROGRAM, IN A SANDBOX (cutbox-rows.mjs): the forced cells as the released guide's own fill.sh prints them over the translation a35de86343202b1e… (all of the seat's roots in one cut). By AI agents, Wed Nov 11 2026. No macro, syntax, notation, axiom, sorry.
-/
import Derived.Test.YtdkebjjmnhdcnaaChecked
import GoSem.Claim
import GoSem.ClaimJoined
import GoSem.ClaimMapViews
import Derived.JoinedTies
import Derived.KernelRfl
namespace Go.Proofs.Ytdkebjjmnhdcnaa
/- THE CELL 'sum', in the pinned program and in every row, IS THE sha256 OF THE DUMP (.gsa) THAT YtdkebjjmnhdcnaaProg.lean LOADS. Nothing in Lean hashes anything: it is a label: what it is worth is what the hold of that sum in a sandbox is worth. -/
noncomputable def Try.pinned : Pinned := { name := "ytdkebjjmnhdcnaa", sum := "a35de86343202b1e8ce0eab7af1a2764a9a99a51097decf2ad6ae805ed5a3db3", checked := Try.checked }
namespace Rows
def none {H : Type} : Left H := { results := [], args := [] }

/-- 'laws.FnExactSetTidy': WHATEVER THE INPUT: true; the input reads as it did. -/
def fnExactSetTidySpec : ChangeSpec := { name := "fnExactSetTidy", fn := fun _ => fun
  | [d] => { results := [.lit (.bool true)], args := [d] }
  | _ => none }
def fnExactSetTidyRow : OpenClaim := { program := "ytdkebjjmnhdcnaa", sum := "a35de86343202b1e8ce0eab7af1a2764a9a99a51097decf2ad6ae805ed5a3db3", func := "loop.example/oneletter/laws.FnExactSetTidy", spec := "fnExactSetTidy", inPlace := ["internal/bytealg.IndexByteString", "internal/bytealg.IndexString", "internal/abi.NoEscape"], recurses := true, named := ["internal/bytealg.MaxLen"], apart := false }
def FnExactSetTidySaid : Prop := fnExactSetTidyRow.holds Try.pinned (OpenSpec.ofChange fnExactSetTidySpec)

/-- ITS FALSE NEIGHBOUR: 'it returns false'. Refute it at one input. -/
def fnExactSetTidyWrong : ChangeSpec := { name := "fnExactSetTidy", fn := fun _ => fun
  | [d] => { results := [.lit (.bool false)], args := [d] }
  | _ => none }
def FnExactSetTidyWrongFalsely : Prop := fnExactSetTidyRow.holds Try.pinned (OpenSpec.ofChange fnExactSetTidyWrong)

/-- 'laws.FnExactSetSame': WHATEVER THE INPUT: true; the input reads as it did. -/
def fnExactSetSameSpec : ChangeSpec := { name := "fnExactSetSame", fn := fun _ => fun
  | [d1, d2] => { results := [.lit (.bool true)], args := [d1, d2] }
  | _ => none }
def fnExactSetSameRow : OpenClaim := { program := "ytdkebjjmnhdcnaa", sum := "a35de86343202b1e8ce0eab7af1a2764a9a99a51097decf2ad6ae805ed5a3db3", func := "loop.example/oneletter/laws.FnExactSetSame", spec := "fnExactSetSame", inPlace := ["internal/bytealg.IndexByteString", "internal/bytealg.IndexString", "internal/abi.NoEscape"], recurses := true, named := ["internal/bytealg.MaxLen"], apart := false }
def FnExactSetSameSaid : Prop := fnExactSetSameRow.holds Try.pinned (OpenSpec.ofChange fnExactSetSameSpec)

/-- ITS FALSE NEIGHBOUR: 'it returns false'. Refute it at one input. -/
def fnExactSetSameWrong : ChangeSpec := { name := "fnExactSetSame", fn := fun _ => fun
  | [d1, d2] => { results := [.lit (.bool false)], args := [d1, d2] }
  | _ => none }
def FnExactSetSameWrongFalsely : Prop := fnExactSetSameRow.holds Try.pinned (OpenSpec.ofChange fnExactSetSameWrong)

/-- 'laws.FnSetIn': WHATEVER THE INPUT: true; the input reads as it did. -/
def fnSetInSpec : ChangeSpec := { name := "fnSetIn", fn := fun _ => fun
  | [d] => { results := [.lit (.bool true)], args := [d] }
  | _ => none }
def fnSetInRow : OpenClaim := { program := "ytdkebjjmnhdcnaa", sum := "a35de86343202b1e8ce0eab7af1a2764a9a99a51097decf2ad6ae805ed5a3db3", func := "loop.example/oneletter/laws.FnSetIn", spec := "fnSetIn", inPlace := ["internal/bytealg.IndexByteString", "internal/bytealg.IndexString", "internal/abi.NoEscape"], named := ["internal/bytealg.MaxLen"], apart := false }
def FnSetInSaid : Prop := fnSetInRow.holds Try.pinned (OpenSpec.ofChange fnSetInSpec)

/-- ITS FALSE NEIGHBOUR: 'it returns false'. Refute it at one input. -/
def fnSetInWrong : ChangeSpec := { name := "fnSetIn", fn := fun _ => fun
  | [d] => { results := [.lit (.bool false)], args := [d] }
  | _ => none }
def FnSetInWrongFalsely : Prop := fnSetInRow.holds Try.pinned (OpenSpec.ofChange fnSetInWrong)

/-- 'laws.FnSetHas': WHATEVER THE INPUT: true; the input reads as it did. -/
def fnSetHasSpec : ChangeSpec := { name := "fnSetHas", fn := fun _ => fun
  | [d] => { results := [.lit (.bool true)], args := [d] }
  | _ => none }
def fnSetHasRow : OpenClaim := { program := "ytdkebjjmnhdcnaa", sum := "a35de86343202b1e8ce0eab7af1a2764a9a99a51097decf2ad6ae805ed5a3db3", func := "loop.example/oneletter/laws.FnSetHas", spec := "fnSetHas", inPlace := ["internal/bytealg.IndexByteString", "internal/bytealg.IndexString", "internal/abi.NoEscape"], named := ["internal/bytealg.MaxLen"], apart := false }
def FnSetHasSaid : Prop := fnSetHasRow.holds Try.pinned (OpenSpec.ofChange fnSetHasSpec)

/-- ITS FALSE NEIGHBOUR: 'it returns false'. Refute it at one input. -/
def fnSetHasWrong : ChangeSpec := { name := "fnSetHas", fn := fun _ => fun
  | [d] => { results := [.lit (.bool false)], args := [d] }
  | _ => none }
def FnSetHasWrongFalsely : Prop := fnSetHasRow.holds Try.pinned (OpenSpec.ofChange fnSetHasWrong)

/-- 'laws.FnSetSizes': WHATEVER THE INPUT: true; the input reads as it did. -/
def fnSetSizesSpec : ChangeSpec := { name := "fnSetSizes", fn := fun _ => fun
  | [d] => { results := [.lit (.bool true)], args := [d] }
  | _ => none }
def fnSetSizesRow : OpenClaim := { program := "ytdkebjjmnhdcnaa", sum := "a35de86343202b1e8ce0eab7af1a2764a9a99a51097decf2ad6ae805ed5a3db3", func := "loop.example/oneletter/laws.FnSetSizes", spec := "fnSetSizes", inPlace := ["internal/bytealg.IndexByteString", "internal/bytealg.IndexString", "internal/abi.NoEscape"], recurses := true, named := ["internal/bytealg.MaxLen"], apart := false }
def FnSetSizesSaid : Prop := fnSetSizesRow.holds Try.pinned (OpenSpec.ofChange fnSetSizesSpec)

/-- ITS FALSE NEIGHBOUR: 'it returns false'. Refute it at one input. -/
def fnSetSizesWrong : ChangeSpec := { name := "fnSetSizes", fn := fun _ => fun
  | [d] => { results := [.lit (.bool false)], args := [d] }
  | _ => none }
def FnSetSizesWrongFalsely : Prop := fnSetSizesRow.holds Try.pinned (OpenSpec.ofChange fnSetSizesWrong)

/-- 'laws.FnExactSetOf': WHATEVER THE INPUT: true; the input reads as it did. -/
def fnExactSetOfSpec : ChangeSpec := { name := "fnExactSetOf", fn := fun _ => fun
  | [d] => { results := [.lit (.bool true)], args := [d] }
  | _ => none }
def fnExactSetOfRow : OpenClaim := { program := "ytdkebjjmnhdcnaa", sum := "a35de86343202b1e8ce0eab7af1a2764a9a99a51097decf2ad6ae805ed5a3db3", func := "loop.example/oneletter/laws.FnExactSetOf", spec := "fnExactSetOf", inPlace := ["internal/abi.NoEscape"], unfollowed := true, recurses := true, apart := false }
def FnExactSetOfSaid : Prop := fnExactSetOfRow.holds Try.pinned (OpenSpec.ofChange fnExactSetOfSpec)

/-- ITS FALSE NEIGHBOUR: 'it returns false'. Refute it at one input. -/
def fnExactSetOfWrong : ChangeSpec := { name := "fnExactSetOf", fn := fun _ => fun
  | [d] => { results := [.lit (.bool false)], args := [d] }
  | _ => none }
def FnExactSetOfWrongFalsely : Prop := fnExactSetOfRow.holds Try.pinned (OpenSpec.ofChange fnExactSetOfWrong)

/-- 'laws.FnExactMakeUp': WHATEVER THE INPUT: true; the input reads as it did. -/
def fnExactMakeUpSpec : ChangeSpec := { name := "fnExactMakeUp", fn := fun _ => fun
  | [d1, d2] => { results := [.lit (.bool true)], args := [d1, d2] }
  | _ => none }
def fnExactMakeUpRow : OpenClaim := { program := "ytdkebjjmnhdcnaa", sum := "a35de86343202b1e8ce0eab7af1a2764a9a99a51097decf2ad6ae805ed5a3db3", func := "loop.example/oneletter/laws.FnExactMakeUp", spec := "fnExactMakeUp", inPlace := ["internal/bytealg.IndexByteString", "internal/bytealg.IndexString", "internal/abi.NoEscape"], unfollowed := true, recurses := true, named := ["internal/bytealg.MaxLen"], apart := false }
def FnExactMakeUpSaid : Prop := fnExactMakeUpRow.holds Try.pinned (OpenSpec.ofChange fnExactMakeUpSpec)

/-- ITS FALSE NEIGHBOUR: 'it returns false'. Refute it at one input. -/
def fnExactMakeUpWrong : ChangeSpec := { name := "fnExactMakeUp", fn := fun _ => fun
  | [d1, d2] => { results := [.lit (.bool false)], args := [d1, d2] }
  | _ => none }
def FnExactMakeUpWrongFalsely : Prop := fnExactMakeUpRow.holds Try.pinned (OpenSpec.ofChange fnExactMakeUpWrong)

/-- 'laws.FnExactMachSet': WHATEVER THE INPUT: true; the input reads as it did. -/
def fnExactMachSetSpec : ChangeSpec := { name := "fnExactMachSet", fn := fun _ => fun
  | [d] => { results := [.lit (.bool true)], args := [d] }
  | _ => none }
def fnExactMachSetRow : OpenClaim := { program := "ytdkebjjmnhdcnaa", sum := "a35de86343202b1e8ce0eab7af1a2764a9a99a51097decf2ad6ae805ed5a3db3", func := "loop.example/oneletter/laws.FnExactMachSet", spec := "fnExactMachSet", inPlace := ["internal/abi.NoEscape"], unfollowed := true, recurses := true, apart := false }
def FnExactMachSetSaid : Prop := fnExactMachSetRow.holds Try.pinned (OpenSpec.ofChange fnExactMachSetSpec)

/-- ITS FALSE NEIGHBOUR: 'it returns false'. Refute it at one input. -/
def fnExactMachSetWrong : ChangeSpec := { name := "fnExactMachSet", fn := fun _ => fun
  | [d] => { results := [.lit (.bool false)], args := [d] }
  | _ => none }
def FnExactMachSetWrongFalsely : Prop := fnExactMachSetRow.holds Try.pinned (OpenSpec.ofChange fnExactMachSetWrong)

/- THE SECOND FORM. 'bulk': how many values and letters a reading holds, each counted each time it is reached (what is shared counts as often as it is met; a slice's spare places count too). A statement '..UptoSaid' is the law's where the arguments, and the package variables that the reading takes, are together of bulk at most 1048576: NARROWER than '..Said'. Prove '..Said' where nothing that the law and all that it calls make is longer than what came in: it says more and counts as full. Else prove '..UptoSaid'. A law counts once. -/
mutual
def uptoBulk {H : Type} : DataW H → Nat
  | .lit (.string bytes) => bytes.length + 1
  | .lit _ => 1
  | .nil => 1
  | .ptr d => uptoBulk d + 1
  | .slice elems spare => uptoBulkAll elems + uptoBulkAll spare + 1
  | .agg parts => uptoBulkAll parts + 1
  | .iface _ d => uptoBulk d + 1
  | .map entries => uptoBulkEntries entries + 1
  | .held _ => 1
def uptoBulkAll {H : Type} : List (DataW H) → Nat
  | [] => 0
  | d :: r => uptoBulk d + uptoBulkAll r
def uptoBulkEntries {H : Type} : List (Lit × DataW H) → Nat
  | [] => 0
  | x :: r => uptoBulkEntry x + uptoBulkEntries r
def uptoBulkEntry {H : Type} : Lit × DataW H → Nat
  | (.string bytes, d) => bytes.length + uptoBulk d + 1
  | (_, d) => uptoBulk d + 1
 end
def uptoSmall : (H : Type) → List (DataW H) → Bool := fun _ ds => decide (uptoBulkAll ds ≤ 1048576)
def OpenSpec.upto (s : _root_.Go.ChangeSpec) : _root_.Go.OpenSpec := { _root_.Go.OpenSpec.ofChange s with cond := some uptoSmall }

/-- 'laws.FnExactSetTidy', WHERE WHAT IT READS IS OF BULK AT MOST 1048576: true; the input reads as it did. -/
def fnExactSetTidyUptoRow : OpenClaim := { program := "ytdkebjjmnhdcnaa", sum := "a35de86343202b1e8ce0eab7af1a2764a9a99a51097decf2ad6ae805ed5a3db3", func := "loop.example/oneletter/laws.FnExactSetTidy", spec := "fnExactSetTidy", inPlace := ["internal/bytealg.IndexByteString", "internal/bytealg.IndexString", "internal/abi.NoEscape"], recurses := true, named := ["internal/bytealg.MaxLen"], apart := false, narrowed := true }
def FnExactSetTidyUptoSaid : Prop := fnExactSetTidyUptoRow.holds Try.pinned (OpenSpec.upto fnExactSetTidySpec)

/-- 'laws.FnExactSetSame', WHERE WHAT IT READS IS OF BULK AT MOST 1048576: true; the input reads as it did. -/
def fnExactSetSameUptoRow : OpenClaim := { program := "ytdkebjjmnhdcnaa", sum := "a35de86343202b1e8ce0eab7af1a2764a9a99a51097decf2ad6ae805ed5a3db3", func := "loop.example/oneletter/laws.FnExactSetSame", spec := "fnExactSetSame", inPlace := ["internal/bytealg.IndexByteString", "internal/bytealg.IndexString", "internal/abi.NoEscape"], recurses := true, named := ["internal/bytealg.MaxLen"], apart := false, narrowed := true }
def FnExactSetSameUptoSaid : Prop := fnExactSetSameUptoRow.holds Try.pinned (OpenSpec.upto fnExactSetSameSpec)

/-- 'laws.FnSetIn', WHERE WHAT IT READS IS OF BULK AT MOST 1048576: true; the input reads as it did. -/
def fnSetInUptoRow : OpenClaim := { program := "ytdkebjjmnhdcnaa", sum := "a35de86343202b1e8ce0eab7af1a2764a9a99a51097decf2ad6ae805ed5a3db3", func := "loop.example/oneletter/laws.FnSetIn", spec := "fnSetIn", inPlace := ["internal/bytealg.IndexByteString", "internal/bytealg.IndexString", "internal/abi.NoEscape"], named := ["internal/bytealg.MaxLen"], apart := false, narrowed := true }
def FnSetInUptoSaid : Prop := fnSetInUptoRow.holds Try.pinned (OpenSpec.upto fnSetInSpec)

/-- 'laws.FnSetHas', WHERE WHAT IT READS IS OF BULK AT MOST 1048576: true; the input reads as it did. -/
def fnSetHasUptoRow : OpenClaim := { program := "ytdkebjjmnhdcnaa", sum := "a35de86343202b1e8ce0eab7af1a2764a9a99a51097decf2ad6ae805ed5a3db3", func := "loop.example/oneletter/laws.FnSetHas", spec := "fnSetHas", inPlace := ["internal/bytealg.IndexByteString", "internal/bytealg.IndexString", "internal/abi.NoEscape"], named := ["internal/bytealg.MaxLen"], apart := false, narrowed := true }
def FnSetHasUptoSaid : Prop := fnSetHasUptoRow.holds Try.pinned (OpenSpec.upto fnSetHasSpec)

/-- 'laws.FnSetSizes', WHERE WHAT IT READS IS OF BULK AT MOST 1048576: true; the input reads as it did. -/
def fnSetSizesUptoRow : OpenClaim := { program := "ytdkebjjmnhdcnaa", sum := "a35de86343202b1e8ce0eab7af1a2764a9a99a51097decf2ad6ae805ed5a3db3", func := "loop.example/oneletter/laws.FnSetSizes", spec := "fnSetSizes", inPlace := ["internal/bytealg.IndexByteString", "internal/bytealg.IndexString", "internal/abi.NoEscape"], recurses := true, named := ["internal/bytealg.MaxLen"], apart := false, narrowed := true }
def FnSetSizesUptoSaid : Prop := fnSetSizesUptoRow.holds Try.pinned (OpenSpec.upto fnSetSizesSpec)

/-- 'laws.FnExactSetOf', WHERE WHAT IT READS IS OF BULK AT MOST 1048576: true; the input reads as it did. -/
def fnExactSetOfUptoRow : OpenClaim := { program := "ytdkebjjmnhdcnaa", sum := "a35de86343202b1e8ce0eab7af1a2764a9a99a51097decf2ad6ae805ed5a3db3", func := "loop.example/oneletter/laws.FnExactSetOf", spec := "fnExactSetOf", inPlace := ["internal/abi.NoEscape"], unfollowed := true, recurses := true, apart := false, narrowed := true }
def FnExactSetOfUptoSaid : Prop := fnExactSetOfUptoRow.holds Try.pinned (OpenSpec.upto fnExactSetOfSpec)

/-- 'laws.FnExactMakeUp', WHERE WHAT IT READS IS OF BULK AT MOST 1048576: true; the input reads as it did. -/
def fnExactMakeUpUptoRow : OpenClaim := { program := "ytdkebjjmnhdcnaa", sum := "a35de86343202b1e8ce0eab7af1a2764a9a99a51097decf2ad6ae805ed5a3db3", func := "loop.example/oneletter/laws.FnExactMakeUp", spec := "fnExactMakeUp", inPlace := ["internal/bytealg.IndexByteString", "internal/bytealg.IndexString", "internal/abi.NoEscape"], unfollowed := true, recurses := true, named := ["internal/bytealg.MaxLen"], apart := false, narrowed := true }
def FnExactMakeUpUptoSaid : Prop := fnExactMakeUpUptoRow.holds Try.pinned (OpenSpec.upto fnExactMakeUpSpec)

/-- 'laws.FnExactMachSet', WHERE WHAT IT READS IS OF BULK AT MOST 1048576: true; the input reads as it did. -/
def fnExactMachSetUptoRow : OpenClaim := { program := "ytdkebjjmnhdcnaa", sum := "a35de86343202b1e8ce0eab7af1a2764a9a99a51097decf2ad6ae805ed5a3db3", func := "loop.example/oneletter/laws.FnExactMachSet", spec := "fnExactMachSet", inPlace := ["internal/abi.NoEscape"], unfollowed := true, recurses := true, apart := false, narrowed := true }
def FnExactMachSetUptoSaid : Prop := fnExactMachSetUptoRow.holds Try.pinned (OpenSpec.upto fnExactMachSetSpec)

end Rows
end Go.Proofs.Ytdkebjjmnhdcnaa
