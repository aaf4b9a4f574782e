-- Made by gprint.py (the kit's print with contracts of this session's own among its functions).
import Derived.Test.YtkapeoigpdppeaaProg
import Derived.Below
import Derived.Deep.Draws
import Derived.Deep.AppendLies
import Derived.Maps.AppendAt
import Derived.OwnWalk
import Derived.Laws.BytesArg
import Derived.Laws.MakeOwn
import Derived.Laws.OwnMore
import Derived.Deep.OwnRows
import Derived.Tactics
import Derived.Lib.ConvBytes
import Derived.Laws.Slices
import Derived.WalkKit
import Derived.KernelRfl
import Derived.RowKit3
import Derived.Deep.LoopGhost
import Derived.Deep.QuietTactic
import Derived.BigQuiet
import Derived.WideLaws
import Derived.Deep.DeepCutAuto
import Derived.Deep.CutBlock
import Derived.Deep.RegionHeld3
import Derived.Laws.Rows
import Derived.Lib.AppendStr
import Derived.ArgAppend
import Derived.Laws.IdiomCopy
import Derived.OrdersHeld
import Derived.Laws.BitsLemmas
import Derived.RowKit
import Derived.Lib.LazyBuf
import Derived.Lib.Bytealg
import Derived.Lib.Builder
import Derived.Shelf.RegionOpenPlain
import Derived.LoopN
import Derived.Lib.UnsafeStr
import Derived.Test.YtkapeoigpdppeaaWWords
import Derived.Test.YtkapeoigpdppeaaWLast
import Derived.Test.YtkapeoigpdppeaaWTab
import Derived.Test.YtkapeoigpdppeaaWFour
import Derived.Test.YtkapeoigpdppeaaWQPut
import Derived.Test.YtkapeoigpdppeaaWApart
import Derived.Test.YtkapeoigpdppeaaWArr
import Derived.Test.YtkapeoigpdppeaaWZeros
import Derived.Test.YtkapeoigpdppeaaWFoot
import Derived.Test.YtkapeoigpdppeaaWKept
import Derived.Test.YtkapeoigpdppeaaWShare
import Derived.Test.YtkapeoigpdppeaaWN
import Derived.Test.YtkapeoigpdppeaaWFootNe
import Derived.Test.YtkapeoigpdppeaaWAt
import Derived.Test.YtkapeoigpdppeaaWEqStruct
import Derived.Test.YtkapeoigpdppeaaWRepsOne
import Derived.Test.YtkapeoigpdppeaaWInv
import Derived.Test.YtkapeoigpdppeaaWInvWords
import Derived.Test.YtkapeoigpdppeaaWGuard
import Derived.Test.YtkapeoigpdppeaaWNEv
import Derived.Test.YtkapeoigpdppeaaWMore
namespace Go.Proofs.Ytkapeoigpdppeaa.G
open Go.RowKit Go.Proofs.YtkapeoigpdppeaaW.PrintWords Go.Proofs.YtkapeoigpdppeaaW.PrintLast Go.Proofs.YtkapeoigpdppeaaW.PrintMore
attribute [local go_sem] max2_int min2_int max_two min_two max_three min_three max_four min_four   -- for this text's walks alone
set_option linter.unusedVariables false
set_option linter.unusedSimpArgs false



def errW : Option Int → Value
 | none => .nilIface
 | some c => .iface 0 (.int .i64 c)
theorem errW_none : errW none = .nilIface := rfl
theorem errW_some (c : Int) : errW (some c) = .iface 0 (.int .i64 c) := rfl

theorem info5 : (Try.prog.info? 5).map (fun i => (i.zero, i.size, i.bytes)) = some (some (.int .u8 0), 1, 1) := by kernel_rfl
theorem info9 : (Try.prog.info? 9).map (fun i => (i.zero, i.size, i.bytes)) = some (some (.string ⟨#[]⟩), 1, 16) := by kernel_rfl
-- the values' own types

end Go.Proofs.Ytkapeoigpdppeaa.G
