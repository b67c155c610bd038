-- A text of the session: laid by a program of its own (wip/tools/mkprint.py) over the translation; Lean checks it.
import Derived.Test.YtbegoilegjinbaaProg
import Derived.Below
import Derived.Deep.Draws
import Derived.Deep.AppendLies
import Derived.Maps.AppendAt
import Derived.OwnWalk
import Derived.Laws.BytesArg
import Derived.Laws.MakeOwn
import Derived.Laws.OwnMore
import Derived.Deep.OwnRows
import Derived.Tactics
import Derived.Lib.ConvBytes
import Derived.Laws.Slices
import Derived.WalkKit
import Derived.KernelRfl
import Derived.RowKit3
import Derived.Deep.LoopGhost
import Derived.Deep.QuietTactic
import Derived.BigQuiet
import Derived.WideLaws
import Derived.Deep.DeepCutAuto
import Derived.Deep.CutBlock
import Derived.Deep.RegionHeld3
import Derived.Laws.Rows
import Derived.Lib.AppendStr
import Derived.ArgAppend
import Derived.Laws.IdiomCopy
import Derived.OrdersHeld
import Derived.Laws.BitsLemmas
import Derived.RowKit
import Derived.Test.YtbegoilegjinbaaWWords
import Derived.Test.YtbegoilegjinbaaWLast
import Derived.Test.YtbegoilegjinbaaWTab
import Derived.Test.YtbegoilegjinbaaWFour
import Derived.Test.YtbegoilegjinbaaWQPut
import Derived.Test.YtbegoilegjinbaaWApart
import Derived.Test.YtbegoilegjinbaaWArr
import Derived.Test.YtbegoilegjinbaaWZeros
import Derived.Test.YtbegoilegjinbaaWFoot
import Derived.Test.YtbegoilegjinbaaWKept
import Derived.Test.YtbegoilegjinbaaWShare
import Derived.Test.YtbegoilegjinbaaWN
import Derived.Test.YtbegoilegjinbaaWFootNe
import Derived.Test.YtbegoilegjinbaaWAt
import Derived.Test.YtbegoilegjinbaaWEqStruct
import Derived.Test.YtbegoilegjinbaaWRepsOne
import Derived.Test.YtbegoilegjinbaaWInv
import Derived.Test.YtbegoilegjinbaaWInvWords
import Derived.Test.YtbegoilegjinbaaWGuard
import Derived.Test.YtbegoilegjinbaaWNEv
import Derived.Test.YtbegoilegjinbaaWMore
import Derived.Test.YtbegoilegjinbaaXMore
namespace Go.Proofs.Ytbegoilegjinbaa.PVecMats
open Go.RowKit Go.Proofs.YtbegoilegjinbaaW.PrintWords Go.Proofs.YtbegoilegjinbaaW.PrintLast Go.Proofs.YtbegoilegjinbaaW.PrintMore
attribute [local go_sem] max2_int min2_int max_two min_two max_three min_three max_four min_four   -- for this text's walks alone
set_option linter.unusedVariables false
set_option linter.unusedSimpArgs false



def errW : Option Int → Value
  | none => .nilIface
  | some c => .iface 0 (.int .i64 c)
theorem errW_none : errW none = .nilIface := rfl
theorem errW_some (c : Int) : errW (some c) = .iface 0 (.int .i64 c) := rfl

theorem info2 : (Try.prog.info? 2).map (fun i => (i.zero, i.size, i.bytes)) = some (some (.int .i64 0), 1, 8) := by kernel_rfl
theorem info39 : (Try.prog.info? 39).map (fun i => (i.zero, i.size, i.bytes)) = some (some (.int .i8 0), 1, 1) := by kernel_rfl
-- the values' own types

end Go.Proofs.Ytbegoilegjinbaa.PVecMats
