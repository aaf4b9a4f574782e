/-
  No cell of these rows narrows 'for every input' (looked for: loops, veiled, ifaces, maps, wideKeys, modest, calm, conditions, laid).
  DERIVED. THE GIVEN ROWS OF THIS SEAT. 7 by the template 'for every input the law returns true; each argument reads behind the call as it read before'; 0 by the template 'total and deterministic' (their statements: YtkapeoigpdppeaaTotals.lean).
  GIVEN WITH THE SEED: the statements are not yours to turn. If you find one false, say at which input.
  Laid BY PROGRAM, IN A SANDBOX (cutbox-rows.mjs): the forced cells as the released guide's own fill.sh prints them over the translation 4f941c964ca9406f… (all of the seat's roots in one cut). By AI agents, Wed Nov 11 2026. No macro, syntax, notation, axiom, sorry.
-/
import Derived.Test.YtkapeoigpdppeaaChecked
import GoSem.Claim
import GoSem.ClaimJoined
import GoSem.ClaimMapViews
import Derived.JoinedTies
import Derived.KernelRfl
namespace Go.Proofs.Ytkapeoigpdppeaa
/- THE CELL 'sum', in the pinned program and in every row, IS THE sha256 OF THE DUMP (.gsa) THAT YtkapeoigpdppeaaProg.lean LOADS. Nothing in Lean hashes anything: it is a label: what it is worth is what the hold of that sum in a sandbox is worth. -/
noncomputable def Try.pinned : Pinned := { name := "ytkapeoigpdppeaa", sum := "4f941c964ca9406fd0db96baa03cf33621375e251f4e40967249552415b35b0a", checked := Try.checked }
namespace Rows
def none {H : Type} : Left H := { results := [], args := [] }

/-- 'laws.FnExactTermIn': WHATEVER THE INPUT: true; the input reads as it did. -/
def fnExactTermInSpec : ChangeSpec := { name := "fnExactTermIn", fn := fun _ => fun
  | [d] => { results := [.lit (.bool true)], args := [d] }
  | _ => none }
def fnExactTermInRow : OpenClaim := { program := "ytkapeoigpdppeaa", sum := "4f941c964ca9406fd0db96baa03cf33621375e251f4e40967249552415b35b0a", func := "loop.example/oneletter/laws.FnExactTermIn", spec := "fnExactTermIn", inPlace := ["internal/bytealg.IndexByteString", "internal/bytealg.IndexString"], recurses := true, named := ["internal/bytealg.MaxLen"], apart := false }
def FnExactTermInSaid : Prop := fnExactTermInRow.holds Try.pinned (OpenSpec.ofChange fnExactTermInSpec)

/-- ITS FALSE NEIGHBOUR: 'it returns false'. Refute it at one input. -/
def fnExactTermInWrong : ChangeSpec := { name := "fnExactTermIn", fn := fun _ => fun
  | [d] => { results := [.lit (.bool false)], args := [d] }
  | _ => none }
def FnExactTermInWrongFalsely : Prop := fnExactTermInRow.holds Try.pinned (OpenSpec.ofChange fnExactTermInWrong)

/-- 'laws.FnExactTermSize': WHATEVER THE INPUT: true; the input reads as it did. -/
def fnExactTermSizeSpec : ChangeSpec := { name := "fnExactTermSize", fn := fun _ => fun
  | [d] => { results := [.lit (.bool true)], args := [d] }
  | _ => none }
def fnExactTermSizeRow : OpenClaim := { program := "ytkapeoigpdppeaa", sum := "4f941c964ca9406fd0db96baa03cf33621375e251f4e40967249552415b35b0a", func := "loop.example/oneletter/laws.FnExactTermSize", spec := "fnExactTermSize", inPlace := ["internal/bytealg.IndexByteString", "internal/bytealg.IndexString", "internal/bytealg.CountString"], recurses := true, named := ["internal/bytealg.MaxLen"], apart := false }
def FnExactTermSizeSaid : Prop := fnExactTermSizeRow.holds Try.pinned (OpenSpec.ofChange fnExactTermSizeSpec)

/-- ITS FALSE NEIGHBOUR: 'it returns false'. Refute it at one input. -/
def fnExactTermSizeWrong : ChangeSpec := { name := "fnExactTermSize", fn := fun _ => fun
  | [d] => { results := [.lit (.bool false)], args := [d] }
  | _ => none }
def FnExactTermSizeWrongFalsely : Prop := fnExactTermSizeRow.holds Try.pinned (OpenSpec.ofChange fnExactTermSizeWrong)

/-- 'laws.FnTermIn': WHATEVER THE INPUT: true; the input reads as it did. -/
def fnTermInSpec : ChangeSpec := { name := "fnTermIn", fn := fun _ => fun
  | [d] => { results := [.lit (.bool true)], args := [d] }
  | _ => none }
def fnTermInRow : OpenClaim := { program := "ytkapeoigpdppeaa", sum := "4f941c964ca9406fd0db96baa03cf33621375e251f4e40967249552415b35b0a", func := "loop.example/oneletter/laws.FnTermIn", spec := "fnTermIn", inPlace := ["internal/bytealg.IndexByteString", "internal/bytealg.IndexString", "internal/bytealg.CountString"], recurses := true, named := ["internal/bytealg.MaxLen"], apart := false }
def FnTermInSaid : Prop := fnTermInRow.holds Try.pinned (OpenSpec.ofChange fnTermInSpec)

/-- ITS FALSE NEIGHBOUR: 'it returns false'. Refute it at one input. -/
def fnTermInWrong : ChangeSpec := { name := "fnTermIn", fn := fun _ => fun
  | [d] => { results := [.lit (.bool false)], args := [d] }
  | _ => none }
def FnTermInWrongFalsely : Prop := fnTermInRow.holds Try.pinned (OpenSpec.ofChange fnTermInWrong)

/-- 'laws.FnTermSize': WHATEVER THE INPUT: true; the input reads as it did. -/
def fnTermSizeSpec : ChangeSpec := { name := "fnTermSize", fn := fun _ => fun
  | [d] => { results := [.lit (.bool true)], args := [d] }
  | _ => none }
def fnTermSizeRow : OpenClaim := { program := "ytkapeoigpdppeaa", sum := "4f941c964ca9406fd0db96baa03cf33621375e251f4e40967249552415b35b0a", func := "loop.example/oneletter/laws.FnTermSize", spec := "fnTermSize", inPlace := ["internal/bytealg.IndexByteString", "internal/bytealg.IndexString", "internal/bytealg.CountString"], recurses := true, named := ["internal/bytealg.MaxLen"], apart := false }
def FnTermSizeSaid : Prop := fnTermSizeRow.holds Try.pinned (OpenSpec.ofChange fnTermSizeSpec)

/-- ITS FALSE NEIGHBOUR: 'it returns false'. Refute it at one input. -/
def fnTermSizeWrong : ChangeSpec := { name := "fnTermSize", fn := fun _ => fun
  | [d] => { results := [.lit (.bool false)], args := [d] }
  | _ => none }
def FnTermSizeWrongFalsely : Prop := fnTermSizeRow.holds Try.pinned (OpenSpec.ofChange fnTermSizeWrong)

/-- 'laws.FnExactTermTidy': WHATEVER THE INPUT: true; the input reads as it did. -/
def fnExactTermTidySpec : ChangeSpec := { name := "fnExactTermTidy", fn := fun _ => fun
  | [d] => { results := [.lit (.bool true)], args := [d] }
  | _ => none }
def fnExactTermTidyRow : OpenClaim := { program := "ytkapeoigpdppeaa", sum := "4f941c964ca9406fd0db96baa03cf33621375e251f4e40967249552415b35b0a", func := "loop.example/oneletter/laws.FnExactTermTidy", spec := "fnExactTermTidy", inPlace := ["internal/bytealg.IndexByteString", "internal/bytealg.IndexString"], recurses := true, named := ["internal/bytealg.MaxLen"], apart := false }
def FnExactTermTidySaid : Prop := fnExactTermTidyRow.holds Try.pinned (OpenSpec.ofChange fnExactTermTidySpec)

/-- ITS FALSE NEIGHBOUR: 'it returns false'. Refute it at one input. -/
def fnExactTermTidyWrong : ChangeSpec := { name := "fnExactTermTidy", fn := fun _ => fun
  | [d] => { results := [.lit (.bool false)], args := [d] }
  | _ => none }
def FnExactTermTidyWrongFalsely : Prop := fnExactTermTidyRow.holds Try.pinned (OpenSpec.ofChange fnExactTermTidyWrong)

/-- 'laws.FnExactTermEmpty': WHATEVER THE INPUT: true; the input reads as it did. -/
def fnExactTermEmptySpec : ChangeSpec := { name := "fnExactTermEmpty", fn := fun _ => fun
  | [d] => { results := [.lit (.bool true)], args := [d] }
  | _ => none }
def fnExactTermEmptyRow : OpenClaim := { program := "ytkapeoigpdppeaa", sum := "4f941c964ca9406fd0db96baa03cf33621375e251f4e40967249552415b35b0a", func := "loop.example/oneletter/laws.FnExactTermEmpty", spec := "fnExactTermEmpty", inPlace := ["internal/bytealg.IndexByteString", "internal/bytealg.IndexString"], recurses := true, named := ["internal/bytealg.MaxLen"], apart := false }
def FnExactTermEmptySaid : Prop := fnExactTermEmptyRow.holds Try.pinned (OpenSpec.ofChange fnExactTermEmptySpec)

/-- ITS FALSE NEIGHBOUR: 'it returns false'. Refute it at one input. -/
def fnExactTermEmptyWrong : ChangeSpec := { name := "fnExactTermEmpty", fn := fun _ => fun
  | [d] => { results := [.lit (.bool false)], args := [d] }
  | _ => none }
def FnExactTermEmptyWrongFalsely : Prop := fnExactTermEmptyRow.holds Try.pinned (OpenSpec.ofChange fnExactTermEmptyWrong)

/-- 'laws.FnExactTermHas': WHATEVER THE INPUT: true; the input reads as it did. -/
def fnExactTermHasSpec : ChangeSpec := { name := "fnExactTermHas", fn := fun _ => fun
  | [d1, d2] => { results := [.lit (.bool true)], args := [d1, d2] }
  | _ => none }
def fnExactTermHasRow : OpenClaim := { program := "ytkapeoigpdppeaa", sum := "4f941c964ca9406fd0db96baa03cf33621375e251f4e40967249552415b35b0a", func := "loop.example/oneletter/laws.FnExactTermHas", spec := "fnExactTermHas", inPlace := ["internal/bytealg.IndexByteString", "internal/bytealg.IndexString"], recurses := true, named := ["internal/bytealg.MaxLen"], apart := false }
def FnExactTermHasSaid : Prop := fnExactTermHasRow.holds Try.pinned (OpenSpec.ofChange fnExactTermHasSpec)

/-- ITS FALSE NEIGHBOUR: 'it returns false'. Refute it at one input. -/
def fnExactTermHasWrong : ChangeSpec := { name := "fnExactTermHas", fn := fun _ => fun
  | [d1, d2] => { results := [.lit (.bool false)], args := [d1, d2] }
  | _ => none }
def FnExactTermHasWrongFalsely : Prop := fnExactTermHasRow.holds Try.pinned (OpenSpec.ofChange fnExactTermHasWrong)

/- THE SECOND FORM. 'bulk': how many values and letters a reading holds, each counted each time it is reached (what is shared counts as often as it is met; a slice's spare places count too). A statement '..UptoSaid' is the law's where the arguments, and the package variables that the reading takes, are together of bulk at most 1048576: NARROWER than '..Said'. Prove '..Said' where nothing that the law and all that it calls make is longer than what came in: it says more and counts as full. Else prove '..UptoSaid'. A law counts once. -/
mutual
def uptoBulk {H : Type} : DataW H → Nat
  | .lit (.string bytes) => bytes.length + 1
  | .lit _ => 1
  | .nil => 1
  | .ptr d => uptoBulk d + 1
  | .slice elems spare => uptoBulkAll elems + uptoBulkAll spare + 1
  | .agg parts => uptoBulkAll parts + 1
  | .iface _ d => uptoBulk d + 1
  | .map entries => uptoBulkEntries entries + 1
  | .held _ => 1
def uptoBulkAll {H : Type} : List (DataW H) → Nat
  | [] => 0
  | d :: r => uptoBulk d + uptoBulkAll r
def uptoBulkEntries {H : Type} : List (Lit × DataW H) → Nat
  | [] => 0
  | x :: r => uptoBulkEntry x + uptoBulkEntries r
def uptoBulkEntry {H : Type} : Lit × DataW H → Nat
  | (.string bytes, d) => bytes.length + uptoBulk d + 1
  | (_, d) => uptoBulk d + 1
 end
def uptoSmall : (H : Type) → List (DataW H) → Bool := fun _ ds => decide (uptoBulkAll ds ≤ 1048576)
def OpenSpec.upto (s : _root_.Go.ChangeSpec) : _root_.Go.OpenSpec := { _root_.Go.OpenSpec.ofChange s with cond := some uptoSmall }

/-- 'laws.FnExactTermIn', WHERE WHAT IT READS IS OF BULK AT MOST 1048576: true; the input reads as it did. -/
def fnExactTermInUptoRow : OpenClaim := { program := "ytkapeoigpdppeaa", sum := "4f941c964ca9406fd0db96baa03cf33621375e251f4e40967249552415b35b0a", func := "loop.example/oneletter/laws.FnExactTermIn", spec := "fnExactTermIn", inPlace := ["internal/bytealg.IndexByteString", "internal/bytealg.IndexString"], recurses := true, named := ["internal/bytealg.MaxLen"], apart := false, narrowed := true }
def FnExactTermInUptoSaid : Prop := fnExactTermInUptoRow.holds Try.pinned (OpenSpec.upto fnExactTermInSpec)

/-- 'laws.FnExactTermSize', WHERE WHAT IT READS IS OF BULK AT MOST 1048576: true; the input reads as it did. -/
def fnExactTermSizeUptoRow : OpenClaim := { program := "ytkapeoigpdppeaa", sum := "4f941c964ca9406fd0db96baa03cf33621375e251f4e40967249552415b35b0a", func := "loop.example/oneletter/laws.FnExactTermSize", spec := "fnExactTermSize", inPlace := ["internal/bytealg.IndexByteString", "internal/bytealg.IndexString", "internal/bytealg.CountString"], recurses := true, named := ["internal/bytealg.MaxLen"], apart := false, narrowed := true }
def FnExactTermSizeUptoSaid : Prop := fnExactTermSizeUptoRow.holds Try.pinned (OpenSpec.upto fnExactTermSizeSpec)

/-- 'laws.FnTermIn', WHERE WHAT IT READS IS OF BULK AT MOST 1048576: true; the input reads as it did. -/
def fnTermInUptoRow : OpenClaim := { program := "ytkapeoigpdppeaa", sum := "4f941c964ca9406fd0db96baa03cf33621375e251f4e40967249552415b35b0a", func := "loop.example/oneletter/laws.FnTermIn", spec := "fnTermIn", inPlace := ["internal/bytealg.IndexByteString", "internal/bytealg.IndexString", "internal/bytealg.CountString"], recurses := true, named := ["internal/bytealg.MaxLen"], apart := false, narrowed := true }
def FnTermInUptoSaid : Prop := fnTermInUptoRow.holds Try.pinned (OpenSpec.upto fnTermInSpec)

/-- 'laws.FnTermSize', WHERE WHAT IT READS IS OF BULK AT MOST 1048576: true; the input reads as it did. -/
def fnTermSizeUptoRow : OpenClaim := { program := "ytkapeoigpdppeaa", sum := "4f941c964ca9406fd0db96baa03cf33621375e251f4e40967249552415b35b0a", func := "loop.example/oneletter/laws.FnTermSize", spec := "fnTermSize", inPlace := ["internal/bytealg.IndexByteString", "internal/bytealg.IndexString", "internal/bytealg.CountString"], recurses := true, named := ["internal/bytealg.MaxLen"], apart := false, narrowed := true }
def FnTermSizeUptoSaid : Prop := fnTermSizeUptoRow.holds Try.pinned (OpenSpec.upto fnTermSizeSpec)

/-- 'laws.FnExactTermTidy', WHERE WHAT IT READS IS OF BULK AT MOST 1048576: true; the input reads as it did. -/
def fnExactTermTidyUptoRow : OpenClaim := { program := "ytkapeoigpdppeaa", sum := "4f941c964ca9406fd0db96baa03cf33621375e251f4e40967249552415b35b0a", func := "loop.example/oneletter/laws.FnExactTermTidy", spec := "fnExactTermTidy", inPlace := ["internal/bytealg.IndexByteString", "internal/bytealg.IndexString"], recurses := true, named := ["internal/bytealg.MaxLen"], apart := false, narrowed := true }
def FnExactTermTidyUptoSaid : Prop := fnExactTermTidyUptoRow.holds Try.pinned (OpenSpec.upto fnExactTermTidySpec)

/-- 'laws.FnExactTermEmpty', WHERE WHAT IT READS IS OF BULK AT MOST 1048576: true; the input reads as it did. -/
def fnExactTermEmptyUptoRow : OpenClaim := { program := "ytkapeoigpdppeaa", sum := "4f941c964ca9406fd0db96baa03cf33621375e251f4e40967249552415b35b0a", func := "loop.example/oneletter/laws.FnExactTermEmpty", spec := "fnExactTermEmpty", inPlace := ["internal/bytealg.IndexByteString", "internal/bytealg.IndexString"], recurses := true, named := ["internal/bytealg.MaxLen"], apart := false, narrowed := true }
def FnExactTermEmptyUptoSaid : Prop := fnExactTermEmptyUptoRow.holds Try.pinned (OpenSpec.upto fnExactTermEmptySpec)

/-- 'laws.FnExactTermHas', WHERE WHAT IT READS IS OF BULK AT MOST 1048576: true; the input reads as it did. -/
def fnExactTermHasUptoRow : OpenClaim := { program := "ytkapeoigpdppeaa", sum := "4f941c964ca9406fd0db96baa03cf33621375e251f4e40967249552415b35b0a", func := "loop.example/oneletter/laws.FnExactTermHas", spec := "fnExactTermHas", inPlace := ["internal/bytealg.IndexByteString", "internal/bytealg.IndexString"], recurses := true, named := ["internal/bytealg.MaxLen"], apart := false, narrowed := true }
def FnExactTermHasUptoSaid : Prop := fnExactTermHasUptoRow.holds Try.pinned (OpenSpec.upto fnExactTermHasSpec)

end Rows
end Go.Proofs.Ytkapeoigpdppeaa
