-- A text of the session: laid by a program of its own (wip/tools/mkprint.py) over the translation; Lean checks it.
import Derived.Test.YtfcchiocjefeeaaProg
import Derived.Below
import Derived.Deep.Draws
import Derived.Deep.AppendLies
import Derived.Maps.AppendAt
import Derived.OwnWalk
import Derived.Laws.BytesArg
import Derived.Laws.MakeOwn
import Derived.Laws.OwnMore
import Derived.Deep.OwnRows
import Derived.Tactics
import Derived.Lib.ConvBytes
import Derived.Laws.Slices
import Derived.WalkKit
import Derived.KernelRfl
import Derived.RowKit3
import Derived.Deep.LoopGhost
import Derived.Deep.QuietTactic
import Derived.BigQuiet
import Derived.WideLaws
import Derived.Deep.DeepCutAuto
import Derived.Deep.CutBlock
import Derived.Deep.RegionHeld3
import Derived.Laws.Rows
import Derived.Lib.AppendStr
import Derived.ArgAppend
import Derived.Laws.IdiomCopy
import Derived.OrdersHeld
import Derived.Laws.BitsLemmas
import Derived.RowKit
import Derived.Test.YtfcchiocjefeeaaWWords
import Derived.Test.YtfcchiocjefeeaaWLast
import Derived.Test.YtfcchiocjefeeaaWTab
import Derived.Test.YtfcchiocjefeeaaWFour
import Derived.Test.YtfcchiocjefeeaaWQPut
import Derived.Test.YtfcchiocjefeeaaWApart
import Derived.Test.YtfcchiocjefeeaaWArr
import Derived.Test.YtfcchiocjefeeaaWZeros
import Derived.Test.YtfcchiocjefeeaaWFoot
import Derived.Test.YtfcchiocjefeeaaWKept
import Derived.Test.YtfcchiocjefeeaaWShare
import Derived.Test.YtfcchiocjefeeaaWN
import Derived.Test.YtfcchiocjefeeaaWFootNe
import Derived.Test.YtfcchiocjefeeaaWAt
import Derived.Test.YtfcchiocjefeeaaWEqStruct
import Derived.Test.YtfcchiocjefeeaaWRepsOne
import Derived.Test.YtfcchiocjefeeaaWInv
import Derived.Test.YtfcchiocjefeeaaWInvWords
import Derived.Test.YtfcchiocjefeeaaWGuard
import Derived.Test.YtfcchiocjefeeaaWNEv
import Derived.Test.YtfcchiocjefeeaaWMore
import Derived.Test.YtfcchiocjefeeaaXMore
namespace Go.Proofs.Ytfcchiocjefeeaa.PCurvePowers
open Go.RowKit Go.Proofs.YtfcchiocjefeeaaW.PrintWords Go.Proofs.YtfcchiocjefeeaaW.PrintLast Go.Proofs.YtfcchiocjefeeaaW.PrintMore
attribute [local go_sem] max2_int min2_int max_two min_two max_three min_three max_four min_four   -- for this text's walks alone
set_option linter.unusedVariables false
set_option linter.unusedSimpArgs false



def errW : Option Int → Value
  | none => .nilIface
  | some c => .iface 0 (.int .i64 c)
theorem errW_none : errW none = .nilIface := rfl
theorem errW_some (c : Int) : errW (some c) = .iface 0 (.int .i64 c) := rfl

theorem info2 : (Try.prog.info? 2).map (fun i => (i.zero, i.size, i.bytes)) = some (some (.int .i64 0), 1, 8) := by kernel_rfl
-- the values' own types

end Go.Proofs.Ytfcchiocjefeeaa.PCurvePowers
