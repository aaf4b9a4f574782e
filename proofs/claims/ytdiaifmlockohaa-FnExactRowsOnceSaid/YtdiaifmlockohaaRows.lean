/-
  No cell of these rows narrows 'for every input' (looked for: loops, veiled, ifaces, maps, wideKeys, modest, calm, conditions, laid).
  DERIVED. THE GIVEN ROWS OF THIS SEAT. 4 by the template 'for every input the law returns true; each argument reads behind the call as it read before'; 0 by the template 'total and deterministic' (their statements: YtdiaifmlockohaaTotals.lean).
  GIVEN WITH THE SEED: the statements are not yours to turn. If you find one false, say at which input.
  Laid BY PROGRAM, IN A SANDBOX (cutbox-rows.mjs): the forced cells as the released guide's own fill.sh prints them over the translation 11aa683ccbae37ce… (all of the seat's roots in one cut). By AI agents, Wed Nov 11 2026. No macro, syntax, notation, axiom, sorry.
-/
import Derived.Test.YtdiaifmlockohaaChecked
import GoSem.Claim
import GoSem.ClaimJoined
import GoSem.ClaimMapViews
import Derived.JoinedTies
import Derived.KernelRfl
namespace Go.Proofs.Ytdiaifmlockohaa
/- THE CELL 'sum', in the pinned program and in every row, IS THE sha256 OF THE DUMP (.gsa) THAT YtdiaifmlockohaaProg.lean LOADS. Nothing in Lean hashes anything: it is a label: what it is worth is what the hold of that sum in a sandbox is worth. -/
noncomputable def Try.pinned : Pinned := { name := "ytdiaifmlockohaa", sum := "11aa683ccbae37cebab6a3519c0e1f47467059d5a2d6915337ff0829589b3551", checked := Try.checked }
namespace Rows
def none {H : Type} : Left H := { results := [], args := [] }

/-- 'laws.FnExactRowsShare': WHATEVER THE INPUT: true; the input reads as it did. -/
def fnExactRowsShareSpec : ChangeSpec := { name := "fnExactRowsShare", fn := fun _ => fun
  | [d] => { results := [.lit (.bool true)], args := [d] }
  | _ => none }
def fnExactRowsShareRow : OpenClaim := { program := "ytdiaifmlockohaa", sum := "11aa683ccbae37cebab6a3519c0e1f47467059d5a2d6915337ff0829589b3551", func := "loop.example/oneletter/laws.FnExactRowsShare", spec := "fnExactRowsShare", unfollowed := true, recurses := true, apart := false }
def FnExactRowsShareSaid : Prop := fnExactRowsShareRow.holds Try.pinned (OpenSpec.ofChange fnExactRowsShareSpec)

/-- ITS FALSE NEIGHBOUR: 'it returns false'. Refute it at one input. -/
def fnExactRowsShareWrong : ChangeSpec := { name := "fnExactRowsShare", fn := fun _ => fun
  | [d] => { results := [.lit (.bool false)], args := [d] }
  | _ => none }
def FnExactRowsShareWrongFalsely : Prop := fnExactRowsShareRow.holds Try.pinned (OpenSpec.ofChange fnExactRowsShareWrong)

/-- 'laws.FnRowsShare': WHATEVER THE INPUT: true; the input reads as it did. -/
def fnRowsShareSpec : ChangeSpec := { name := "fnRowsShare", fn := fun _ => fun
  | [d] => { results := [.lit (.bool true)], args := [d] }
  | _ => none }
def fnRowsShareRow : OpenClaim := { program := "ytdiaifmlockohaa", sum := "11aa683ccbae37cebab6a3519c0e1f47467059d5a2d6915337ff0829589b3551", func := "loop.example/oneletter/laws.FnRowsShare", spec := "fnRowsShare", unfollowed := true, recurses := true, apart := false }
def FnRowsShareSaid : Prop := fnRowsShareRow.holds Try.pinned (OpenSpec.ofChange fnRowsShareSpec)

/-- ITS FALSE NEIGHBOUR: 'it returns false'. Refute it at one input. -/
def fnRowsShareWrong : ChangeSpec := { name := "fnRowsShare", fn := fun _ => fun
  | [d] => { results := [.lit (.bool false)], args := [d] }
  | _ => none }
def FnRowsShareWrongFalsely : Prop := fnRowsShareRow.holds Try.pinned (OpenSpec.ofChange fnRowsShareWrong)

/-- 'laws.FnExactRowsOnce': WHATEVER THE INPUT: true; the input reads as it did. -/
def fnExactRowsOnceSpec : ChangeSpec := { name := "fnExactRowsOnce", fn := fun _ => fun
  | [d] => { results := [.lit (.bool true)], args := [d] }
  | _ => none }
def fnExactRowsOnceRow : OpenClaim := { program := "ytdiaifmlockohaa", sum := "11aa683ccbae37cebab6a3519c0e1f47467059d5a2d6915337ff0829589b3551", func := "loop.example/oneletter/laws.FnExactRowsOnce", spec := "fnExactRowsOnce", unfollowed := true, recurses := true, apart := false }
def FnExactRowsOnceSaid : Prop := fnExactRowsOnceRow.holds Try.pinned (OpenSpec.ofChange fnExactRowsOnceSpec)

/-- ITS FALSE NEIGHBOUR: 'it returns false'. Refute it at one input. -/
def fnExactRowsOnceWrong : ChangeSpec := { name := "fnExactRowsOnce", fn := fun _ => fun
  | [d] => { results := [.lit (.bool false)], args := [d] }
  | _ => none }
def FnExactRowsOnceWrongFalsely : Prop := fnExactRowsOnceRow.holds Try.pinned (OpenSpec.ofChange fnExactRowsOnceWrong)

/-- 'laws.FnRowsOnce': WHATEVER THE INPUT: true; the input reads as it did. -/
def fnRowsOnceSpec : ChangeSpec := { name := "fnRowsOnce", fn := fun _ => fun
  | [d] => { results := [.lit (.bool true)], args := [d] }
  | _ => none }
def fnRowsOnceRow : OpenClaim := { program := "ytdiaifmlockohaa", sum := "11aa683ccbae37cebab6a3519c0e1f47467059d5a2d6915337ff0829589b3551", func := "loop.example/oneletter/laws.FnRowsOnce", spec := "fnRowsOnce", unfollowed := true, recurses := true, apart := false }
def FnRowsOnceSaid : Prop := fnRowsOnceRow.holds Try.pinned (OpenSpec.ofChange fnRowsOnceSpec)

/-- ITS FALSE NEIGHBOUR: 'it returns false'. Refute it at one input. -/
def fnRowsOnceWrong : ChangeSpec := { name := "fnRowsOnce", fn := fun _ => fun
  | [d] => { results := [.lit (.bool false)], args := [d] }
  | _ => none }
def FnRowsOnceWrongFalsely : Prop := fnRowsOnceRow.holds Try.pinned (OpenSpec.ofChange fnRowsOnceWrong)

/- THE SECOND FORM. 'bulk': how many values and letters a reading holds, each counted each time it is reached (what is shared counts as often as it is met; a slice's spare places count too). A statement '..UptoSaid' is the law's where the arguments, and the package variables that the reading takes, are together of bulk at most 1048576: NARROWER than '..Said'. Prove '..Said' where nothing that the law and all that it calls make is longer than what came in: it says more and counts as full. Else prove '..UptoSaid'. A law counts once. -/
mutual
def uptoBulk {H : Type} : DataW H → Nat
  | .lit (.string bytes) => bytes.length + 1
  | .lit _ => 1
  | .nil => 1
  | .ptr d => uptoBulk d + 1
  | .slice elems spare => uptoBulkAll elems + uptoBulkAll spare + 1
  | .agg parts => uptoBulkAll parts + 1
  | .iface _ d => uptoBulk d + 1
  | .map entries => uptoBulkEntries entries + 1
  | .held _ => 1
def uptoBulkAll {H : Type} : List (DataW H) → Nat
  | [] => 0
  | d :: r => uptoBulk d + uptoBulkAll r
def uptoBulkEntries {H : Type} : List (Lit × DataW H) → Nat
  | [] => 0
  | x :: r => uptoBulkEntry x + uptoBulkEntries r
def uptoBulkEntry {H : Type} : Lit × DataW H → Nat
  | (.string bytes, d) => bytes.length + uptoBulk d + 1
  | (_, d) => uptoBulk d + 1
 end
def uptoSmall : (H : Type) → List (DataW H) → Bool := fun _ ds => decide (uptoBulkAll ds ≤ 1048576)
def OpenSpec.upto (s : _root_.Go.ChangeSpec) : _root_.Go.OpenSpec := { _root_.Go.OpenSpec.ofChange s with cond := some uptoSmall }

/-- 'laws.FnExactRowsShare', WHERE WHAT IT READS IS OF BULK AT MOST 1048576: true; the input reads as it did. -/
def fnExactRowsShareUptoRow : OpenClaim := { program := "ytdiaifmlockohaa", sum := "11aa683ccbae37cebab6a3519c0e1f47467059d5a2d6915337ff0829589b3551", func := "loop.example/oneletter/laws.FnExactRowsShare", spec := "fnExactRowsShare", unfollowed := true, recurses := true, apart := false, narrowed := true }
def FnExactRowsShareUptoSaid : Prop := fnExactRowsShareUptoRow.holds Try.pinned (OpenSpec.upto fnExactRowsShareSpec)

/-- 'laws.FnRowsShare', WHERE WHAT IT READS IS OF BULK AT MOST 1048576: true; the input reads as it did. -/
def fnRowsShareUptoRow : OpenClaim := { program := "ytdiaifmlockohaa", sum := "11aa683ccbae37cebab6a3519c0e1f47467059d5a2d6915337ff0829589b3551", func := "loop.example/oneletter/laws.FnRowsShare", spec := "fnRowsShare", unfollowed := true, recurses := true, apart := false, narrowed := true }
def FnRowsShareUptoSaid : Prop := fnRowsShareUptoRow.holds Try.pinned (OpenSpec.upto fnRowsShareSpec)

/-- 'laws.FnExactRowsOnce', WHERE WHAT IT READS IS OF BULK AT MOST 1048576: true; the input reads as it did. -/
def fnExactRowsOnceUptoRow : OpenClaim := { program := "ytdiaifmlockohaa", sum := "11aa683ccbae37cebab6a3519c0e1f47467059d5a2d6915337ff0829589b3551", func := "loop.example/oneletter/laws.FnExactRowsOnce", spec := "fnExactRowsOnce", unfollowed := true, recurses := true, apart := false, narrowed := true }
def FnExactRowsOnceUptoSaid : Prop := fnExactRowsOnceUptoRow.holds Try.pinned (OpenSpec.upto fnExactRowsOnceSpec)

/-- 'laws.FnRowsOnce', WHERE WHAT IT READS IS OF BULK AT MOST 1048576: true; the input reads as it did. -/
def fnRowsOnceUptoRow : OpenClaim := { program := "ytdiaifmlockohaa", sum := "11aa683ccbae37cebab6a3519c0e1f47467059d5a2d6915337ff0829589b3551", func := "loop.example/oneletter/laws.FnRowsOnce", spec := "fnRowsOnce", unfollowed := true, recurses := true, apart := false, narrowed := true }
def FnRowsOnceUptoSaid : Prop := fnRowsOnceUptoRow.holds Try.pinned (OpenSpec.upto fnRowsOnceSpec)

end Rows
end Go.Proofs.Ytdiaifmlockohaa
