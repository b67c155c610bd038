-- A text of the session: laid by a program of its own (wip/tools/mkprint.py) over the translation; Lean checks it.
import Derived.Test.YtnpecffgfanadaaProg
import Derived.Below
import Derived.Deep.Draws
import Derived.Deep.AppendLies
import Derived.Maps.AppendAt
import Derived.OwnWalk
import Derived.Laws.BytesArg
import Derived.Laws.MakeOwn
import Derived.Laws.OwnMore
import Derived.Deep.OwnRows
import Derived.Tactics
import Derived.Lib.ConvBytes
import Derived.Laws.Slices
import Derived.WalkKit
import Derived.KernelRfl
import Derived.RowKit3
import Derived.Deep.LoopGhost
import Derived.Deep.QuietTactic
import Derived.BigQuiet
import Derived.WideLaws
import Derived.Deep.DeepCutAuto
import Derived.Deep.CutBlock
import Derived.Deep.RegionHeld3
import Derived.Laws.Rows
import Derived.Lib.AppendStr
import Derived.ArgAppend
import Derived.Laws.IdiomCopy
import Derived.OrdersHeld
import Derived.Laws.BitsLemmas
import Derived.RowKit
import Derived.Test.YtnpecffgfanadaaWWords
import Derived.Test.YtnpecffgfanadaaWLast
import Derived.Test.YtnpecffgfanadaaWTab
import Derived.Test.YtnpecffgfanadaaWFour
import Derived.Test.YtnpecffgfanadaaWQPut
import Derived.Test.YtnpecffgfanadaaWApart
import Derived.Test.YtnpecffgfanadaaWArr
import Derived.Test.YtnpecffgfanadaaWZeros
import Derived.Test.YtnpecffgfanadaaWFoot
import Derived.Test.YtnpecffgfanadaaWKept
import Derived.Test.YtnpecffgfanadaaWShare
import Derived.Test.YtnpecffgfanadaaWN
import Derived.Test.YtnpecffgfanadaaWFootNe
import Derived.Test.YtnpecffgfanadaaWAt
import Derived.Test.YtnpecffgfanadaaWEqStruct
import Derived.Test.YtnpecffgfanadaaWRepsOne
import Derived.Test.YtnpecffgfanadaaWInv
import Derived.Test.YtnpecffgfanadaaWInvWords
import Derived.Test.YtnpecffgfanadaaWGuard
import Derived.Test.YtnpecffgfanadaaWNEv
import Derived.Test.YtnpecffgfanadaaWMore
import Derived.Test.YtnpecffgfanadaaXMore
namespace Go.Proofs.Ytnpecffgfanadaa.PTurnApart
open Go.RowKit Go.Proofs.YtnpecffgfanadaaW.PrintWords Go.Proofs.YtnpecffgfanadaaW.PrintLast Go.Proofs.YtnpecffgfanadaaW.PrintMore
attribute [local go_sem] max2_int min2_int max_two min_two max_three min_three max_four min_four   -- for this text's walks alone
set_option linter.unusedVariables false
set_option linter.unusedSimpArgs false



def errW : Option Int → Value
  | none => .nilIface
  | some c => .iface 0 (.int .i64 c)
theorem errW_none : errW none = .nilIface := rfl
theorem errW_some (c : Int) : errW (some c) = .iface 0 (.int .i64 c) := rfl

theorem info2 : (Try.prog.info? 2).map (fun i => (i.zero, i.size, i.bytes)) = some (some (.int .i64 0), 1, 8) := by kernel_rfl
-- the values' own types

end Go.Proofs.Ytnpecffgfanadaa.PTurnApart
