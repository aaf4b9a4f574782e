-- Made by gprint.py (the kit's print with contracts of this session's own among its functions).
import Derived.Test.YtjfmcbkclmoioaaProg
import Derived.Below
import Derived.Deep.Draws
import Derived.Deep.AppendLies
import Derived.Maps.AppendAt
import Derived.OwnWalk
import Derived.Laws.BytesArg
import Derived.Laws.MakeOwn
import Derived.Laws.OwnMore
import Derived.Deep.OwnRows
import Derived.Tactics
import Derived.Lib.ConvBytes
import Derived.Laws.Slices
import Derived.WalkKit
import Derived.KernelRfl
import Derived.RowKit3
import Derived.Deep.LoopGhost
import Derived.Deep.QuietTactic
import Derived.BigQuiet
import Derived.WideLaws
import Derived.Deep.DeepCutAuto
import Derived.Deep.CutBlock
import Derived.Deep.RegionHeld3
import Derived.Laws.Rows
import Derived.Lib.AppendStr
import Derived.ArgAppend
import Derived.Laws.IdiomCopy
import Derived.OrdersHeld
import Derived.Laws.BitsLemmas
import Derived.RowKit
import Derived.Lib.LazyBuf
import Derived.Lib.Bytealg
import Derived.RangeFuncNested
import Derived.RangeFuncBound
import Derived.RangeFuncCalls
import Derived.RangeFuncLeaves
import Derived.RangeFuncBox
import Derived.Shelf.Abstract
import Derived.OwnWalkIn
import Derived.TacticsInMore
import Derived.LoopNIn
import Derived.LoopIn
import Derived.Test.YtjfmcbkclmoioaaWWords
import Derived.Test.YtjfmcbkclmoioaaWLast
import Derived.Test.YtjfmcbkclmoioaaWTab
import Derived.Test.YtjfmcbkclmoioaaWFour
import Derived.Test.YtjfmcbkclmoioaaWQPut
import Derived.Test.YtjfmcbkclmoioaaWApart
import Derived.Test.YtjfmcbkclmoioaaWArr
import Derived.Test.YtjfmcbkclmoioaaWZeros
import Derived.Test.YtjfmcbkclmoioaaWFoot
import Derived.Test.YtjfmcbkclmoioaaWKept
import Derived.Test.YtjfmcbkclmoioaaWShare
import Derived.Test.YtjfmcbkclmoioaaWN
import Derived.Test.YtjfmcbkclmoioaaWFootNe
import Derived.Test.YtjfmcbkclmoioaaWAt
import Derived.Test.YtjfmcbkclmoioaaWEqStruct
import Derived.Test.YtjfmcbkclmoioaaWRepsOne
import Derived.Test.YtjfmcbkclmoioaaWInv
import Derived.Test.YtjfmcbkclmoioaaWInvWords
import Derived.Test.YtjfmcbkclmoioaaWGuard
import Derived.Test.YtjfmcbkclmoioaaWNEv
import Derived.Test.YtjfmcbkclmoioaaWMore
namespace Go.Proofs.Ytjfmcbkclmoioaa.G
open Go.RowKit Go.Proofs.YtjfmcbkclmoioaaW.PrintWords Go.Proofs.YtjfmcbkclmoioaaW.PrintLast Go.Proofs.YtjfmcbkclmoioaaW.PrintMore
attribute [local go_sem] max2_int min2_int max_two min_two max_three min_three max_four min_four   -- for this text's walks alone
set_option linter.unusedVariables false
set_option linter.unusedSimpArgs false



def errW : Option Int → Value
 | none => .nilIface
 | some c => .iface 0 (.int .i64 c)
theorem errW_none : errW none = .nilIface := rfl
theorem errW_some (c : Int) : errW (some c) = .iface 0 (.int .i64 c) := rfl

theorem info3 : (Try.prog.info? 3).map (fun i => (i.zero, i.size, i.bytes)) = some (some (.int .i64 0), 1, 8) := by kernel_rfl
theorem info4 : (Try.prog.info? 4).map (fun i => (i.zero, i.size, i.bytes)) = some (some (.bool false), 1, 1) := by kernel_rfl
-- the values' own types

end Go.Proofs.Ytjfmcbkclmoioaa.G
