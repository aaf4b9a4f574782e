-- Made by gprint.py (the kit's print with contracts of this session's own among its functions).
import Derived.Test.YtkjchagikejkpaaProg
import Derived.Below
import Derived.Deep.Draws
import Derived.Deep.AppendLies
import Derived.Maps.AppendAt
import Derived.OwnWalk
import Derived.Laws.BytesArg
import Derived.Laws.MakeOwn
import Derived.Laws.OwnMore
import Derived.Deep.OwnRows
import Derived.Tactics
import Derived.Lib.ConvBytes
import Derived.Laws.Slices
import Derived.WalkKit
import Derived.KernelRfl
import Derived.RowKit3
import Derived.Deep.LoopGhost
import Derived.Deep.QuietTactic
import Derived.BigQuiet
import Derived.WideLaws
import Derived.Deep.DeepCutAuto
import Derived.Deep.CutBlock
import Derived.Deep.RegionHeld3
import Derived.Laws.Rows
import Derived.Lib.AppendStr
import Derived.ArgAppend
import Derived.Laws.IdiomCopy
import Derived.OrdersHeld
import Derived.Laws.BitsLemmas
import Derived.RowKit
import Derived.Lib.Bytealg
import Derived.Test.YtkjchagikejkpaaWWords
import Derived.Test.YtkjchagikejkpaaWLast
import Derived.Test.YtkjchagikejkpaaWTab
import Derived.Test.YtkjchagikejkpaaWFour
import Derived.Test.YtkjchagikejkpaaWQPut
import Derived.Test.YtkjchagikejkpaaWApart
import Derived.Test.YtkjchagikejkpaaWArr
import Derived.Test.YtkjchagikejkpaaWZeros
import Derived.Test.YtkjchagikejkpaaWFoot
import Derived.Test.YtkjchagikejkpaaWKept
import Derived.Test.YtkjchagikejkpaaWShare
import Derived.Test.YtkjchagikejkpaaWN
import Derived.Test.YtkjchagikejkpaaWFootNe
import Derived.Test.YtkjchagikejkpaaWAt
import Derived.Test.YtkjchagikejkpaaWEqStruct
import Derived.Test.YtkjchagikejkpaaWRepsOne
import Derived.Test.YtkjchagikejkpaaWInv
import Derived.Test.YtkjchagikejkpaaWInvWords
import Derived.Test.YtkjchagikejkpaaWGuard
import Derived.Test.YtkjchagikejkpaaWNEv
import Derived.Test.YtkjchagikejkpaaWMore
namespace Go.Proofs.Ytkjchagikejkpaa.G
open Go.RowKit Go.Proofs.YtkjchagikejkpaaW.PrintWords Go.Proofs.YtkjchagikejkpaaW.PrintLast Go.Proofs.YtkjchagikejkpaaW.PrintMore
attribute [local go_sem] max2_int min2_int max_two min_two max_three min_three max_four min_four   -- for this text's walks alone
set_option linter.unusedVariables false
set_option linter.unusedSimpArgs false



def errW : Option Int → Value
 | none => .nilIface
 | some c => .iface 0 (.int .i64 c)
theorem errW_none : errW none = .nilIface := rfl
theorem errW_some (c : Int) : errW (some c) = .iface 0 (.int .i64 c) := rfl

theorem info3 : (Try.prog.info? 3).map (fun i => (i.zero, i.size, i.bytes)) = some (some (.int .i64 0), 1, 8) := by kernel_rfl
theorem info4 : (Try.prog.info? 4).map (fun i => (i.zero, i.size, i.bytes)) = some (some (.bool false), 1, 1) := by kernel_rfl
theorem info5 : (Try.prog.info? 5).map (fun i => (i.zero, i.size, i.bytes)) = some (some (.int .u8 0), 1, 1) := by kernel_rfl
theorem info9 : (Try.prog.info? 9).map (fun i => (i.zero, i.size, i.bytes)) = some (some (.string ⟨#[]⟩), 1, 16) := by kernel_rfl
-- the values' own types

end Go.Proofs.Ytkjchagikejkpaa.G
