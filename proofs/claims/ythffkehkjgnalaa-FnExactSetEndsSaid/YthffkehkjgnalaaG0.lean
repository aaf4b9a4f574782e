-- Made by gprint.py (the kit's print with contracts of this session's own among its functions).
import Derived.Test.YthffkehkjgnalaaProg
import Derived.Below
import Derived.Deep.Draws
import Derived.Deep.AppendLies
import Derived.Maps.AppendAt
import Derived.OwnWalk
import Derived.Laws.BytesArg
import Derived.Laws.MakeOwn
import Derived.Laws.OwnMore
import Derived.Deep.OwnRows
import Derived.Tactics
import Derived.Lib.ConvBytes
import Derived.Laws.Slices
import Derived.WalkKit
import Derived.KernelRfl
import Derived.RowKit3
import Derived.Deep.LoopGhost
import Derived.Deep.QuietTactic
import Derived.BigQuiet
import Derived.WideLaws
import Derived.Deep.DeepCutAuto
import Derived.Deep.CutBlock
import Derived.Deep.RegionHeld3
import Derived.Laws.Rows
import Derived.Lib.AppendStr
import Derived.ArgAppend
import Derived.Laws.IdiomCopy
import Derived.OrdersHeld
import Derived.Laws.BitsLemmas
import Derived.RowKit
import Derived.Lib.LazyBuf
import Derived.Lib.Bytealg
import Derived.Lib.Builder
import Derived.Lib.UnsafeStr
import Derived.Shelf.RegionOpenPlain
import Derived.Test.YthffkehkjgnalaaWWords
import Derived.Test.YthffkehkjgnalaaWLast
import Derived.Test.YthffkehkjgnalaaWTab
import Derived.Test.YthffkehkjgnalaaWFour
import Derived.Test.YthffkehkjgnalaaWQPut
import Derived.Test.YthffkehkjgnalaaWApart
import Derived.Test.YthffkehkjgnalaaWArr
import Derived.Test.YthffkehkjgnalaaWZeros
import Derived.Test.YthffkehkjgnalaaWFoot
import Derived.Test.YthffkehkjgnalaaWKept
import Derived.Test.YthffkehkjgnalaaWShare
import Derived.Test.YthffkehkjgnalaaWN
import Derived.Test.YthffkehkjgnalaaWFootNe
import Derived.Test.YthffkehkjgnalaaWAt
import Derived.Test.YthffkehkjgnalaaWEqStruct
import Derived.Test.YthffkehkjgnalaaWRepsOne
import Derived.Test.YthffkehkjgnalaaWInv
import Derived.Test.YthffkehkjgnalaaWInvWords
import Derived.Test.YthffkehkjgnalaaWGuard
import Derived.Test.YthffkehkjgnalaaWNEv
import Derived.Test.YthffkehkjgnalaaWMore
namespace Go.Proofs.Ythffkehkjgnalaa.G
open Go.RowKit Go.Proofs.YthffkehkjgnalaaW.PrintWords Go.Proofs.YthffkehkjgnalaaW.PrintLast Go.Proofs.YthffkehkjgnalaaW.PrintMore
attribute [local go_sem] max2_int min2_int max_two min_two max_three min_three max_four min_four   -- for this text's walks alone
set_option linter.unusedVariables false
set_option linter.unusedSimpArgs false



def errW : Option Int → Value
 | none => .nilIface
 | some c => .iface 0 (.int .i64 c)
theorem errW_none : errW none = .nilIface := rfl
theorem errW_some (c : Int) : errW (some c) = .iface 0 (.int .i64 c) := rfl

theorem info3 : (Try.prog.info? 3).map (fun i => (i.zero, i.size, i.bytes)) = some (some (.int .i64 0), 1, 8) := by kernel_rfl
theorem info4 : (Try.prog.info? 4).map (fun i => (i.zero, i.size, i.bytes)) = some (some (.bool false), 1, 1) := by kernel_rfl
-- the values' own types

end Go.Proofs.Ythffkehkjgnalaa.G
