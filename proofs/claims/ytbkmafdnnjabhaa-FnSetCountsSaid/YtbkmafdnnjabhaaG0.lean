-- Made by gprint.py (the kit's print with contracts of this session's own among its functions).
import Derived.Test.YtbkmafdnnjabhaaProg
import Derived.Below
import Derived.Deep.Draws
import Derived.Deep.AppendLies
import Derived.Maps.AppendAt
import Derived.OwnWalk
import Derived.Laws.BytesArg
import Derived.Laws.MakeOwn
import Derived.Laws.OwnMore
import Derived.Deep.OwnRows
import Derived.Tactics
import Derived.Lib.ConvBytes
import Derived.Laws.Slices
import Derived.WalkKit
import Derived.KernelRfl
import Derived.RowKit3
import Derived.Deep.LoopGhost
import Derived.Deep.QuietTactic
import Derived.BigQuiet
import Derived.WideLaws
import Derived.Deep.DeepCutAuto
import Derived.Deep.CutBlock
import Derived.Deep.RegionHeld3
import Derived.Laws.Rows
import Derived.Lib.AppendStr
import Derived.ArgAppend
import Derived.Laws.IdiomCopy
import Derived.OrdersHeld
import Derived.Laws.BitsLemmas
import Derived.RowKit
import Derived.Lib.Bytealg
import Derived.Test.YtbkmafdnnjabhaaWWords
import Derived.Test.YtbkmafdnnjabhaaWLast
import Derived.Test.YtbkmafdnnjabhaaWTab
import Derived.Test.YtbkmafdnnjabhaaWFour
import Derived.Test.YtbkmafdnnjabhaaWQPut
import Derived.Test.YtbkmafdnnjabhaaWApart
import Derived.Test.YtbkmafdnnjabhaaWArr
import Derived.Test.YtbkmafdnnjabhaaWZeros
import Derived.Test.YtbkmafdnnjabhaaWFoot
import Derived.Test.YtbkmafdnnjabhaaWKept
import Derived.Test.YtbkmafdnnjabhaaWShare
import Derived.Test.YtbkmafdnnjabhaaWN
import Derived.Test.YtbkmafdnnjabhaaWFootNe
import Derived.Test.YtbkmafdnnjabhaaWAt
import Derived.Test.YtbkmafdnnjabhaaWEqStruct
import Derived.Test.YtbkmafdnnjabhaaWRepsOne
import Derived.Test.YtbkmafdnnjabhaaWInv
import Derived.Test.YtbkmafdnnjabhaaWInvWords
import Derived.Test.YtbkmafdnnjabhaaWGuard
import Derived.Test.YtbkmafdnnjabhaaWNEv
import Derived.Test.YtbkmafdnnjabhaaWMore
namespace Go.Proofs.Ytbkmafdnnjabhaa.G
open Go.RowKit Go.Proofs.YtbkmafdnnjabhaaW.PrintWords Go.Proofs.YtbkmafdnnjabhaaW.PrintLast Go.Proofs.YtbkmafdnnjabhaaW.PrintMore
attribute [local go_sem] max2_int min2_int max_two min_two max_three min_three max_four min_four   -- for this text's walks alone
set_option linter.unusedVariables false
set_option linter.unusedSimpArgs false



def errW : Option Int → Value
 | none => .nilIface
 | some c => .iface 0 (.int .i64 c)
theorem errW_none : errW none = .nilIface := rfl
theorem errW_some (c : Int) : errW (some c) = .iface 0 (.int .i64 c) := rfl

theorem info3 : (Try.prog.info? 3).map (fun i => (i.zero, i.size, i.bytes)) = some (some (.int .i64 0), 1, 8) := by kernel_rfl
theorem info4 : (Try.prog.info? 4).map (fun i => (i.zero, i.size, i.bytes)) = some (some (.bool false), 1, 1) := by kernel_rfl
theorem info5 : (Try.prog.info? 5).map (fun i => (i.zero, i.size, i.bytes)) = some (some (.int .u8 0), 1, 1) := by kernel_rfl
theorem info9 : (Try.prog.info? 9).map (fun i => (i.zero, i.size, i.bytes)) = some (some (.string ⟨#[]⟩), 1, 16) := by kernel_rfl
-- the values' own types

end Go.Proofs.Ytbkmafdnnjabhaa.G
