/- A text of the session: functions of the program and their walks, laid by a program of its own (wip/tools/mkprint.py) over the translation. No condition. -/
import Derived.Test.YtekaiebfgcjddaaProg
import Derived.Below
import Derived.Deep.Draws
import Derived.Deep.AppendLies
import Derived.Maps.AppendAt
import Derived.OwnWalk
import Derived.Laws.BytesArg
import Derived.Laws.MakeOwn
import Derived.Laws.OwnMore
import Derived.Deep.OwnRows
import Derived.Tactics
import Derived.Lib.ConvBytes
import Derived.Laws.Slices
import Derived.WalkKit
import Derived.KernelRfl
import Derived.RowKit3
import Derived.Deep.LoopGhost
import Derived.Deep.QuietTactic
import Derived.BigQuiet
import Derived.WideLaws
import Derived.Deep.DeepCutAuto
import Derived.Deep.CutBlock
import Derived.Deep.RegionHeld3
import Derived.Laws.Rows
import Derived.Lib.AppendStr
import Derived.ArgAppend
import Derived.Laws.IdiomCopy
import Derived.OrdersHeld
import Derived.Laws.BitsLemmas
import Derived.RowKit
import Derived.Test.YtekaiebfgcjddaaWWords
import Derived.Test.YtekaiebfgcjddaaWLast
import Derived.Test.YtekaiebfgcjddaaWTab
import Derived.Test.YtekaiebfgcjddaaWFour
import Derived.Test.YtekaiebfgcjddaaWQPut
import Derived.Test.YtekaiebfgcjddaaWApart
import Derived.Test.YtekaiebfgcjddaaWArr
import Derived.Test.YtekaiebfgcjddaaWZeros
import Derived.Test.YtekaiebfgcjddaaWFoot
import Derived.Test.YtekaiebfgcjddaaWKept
import Derived.Test.YtekaiebfgcjddaaWShare
import Derived.Test.YtekaiebfgcjddaaWN
import Derived.Test.YtekaiebfgcjddaaWFootNe
import Derived.Test.YtekaiebfgcjddaaWAt
import Derived.Test.YtekaiebfgcjddaaWEqStruct
import Derived.Test.YtekaiebfgcjddaaWRepsOne
import Derived.Test.YtekaiebfgcjddaaWInv
import Derived.Test.YtekaiebfgcjddaaWInvWords
import Derived.Test.YtekaiebfgcjddaaWGuard
import Derived.Test.YtekaiebfgcjddaaWNEv
import Derived.Test.YtekaiebfgcjddaaWMore
import Derived.Test.YtekaiebfgcjddaaXMore
namespace Go.Proofs.Ytekaiebfgcjddaa.PGraftApplies
open Go.RowKit Go.Proofs.YtekaiebfgcjddaaW.PrintWords Go.Proofs.YtekaiebfgcjddaaW.PrintLast Go.Proofs.YtekaiebfgcjddaaW.PrintMore
attribute [local go_sem] max2_int min2_int max_two min_two max_three min_three max_four min_four   -- for this text's walks alone
set_option linter.unusedVariables false
set_option linter.unusedSimpArgs false



def errW : Option Int → Value
  | none => .nilIface
  | some c => .iface 0 (.int .i64 c)
theorem errW_none : errW none = .nilIface := rfl
theorem errW_some (c : Int) : errW (some c) = .iface 0 (.int .i64 c) := rfl

theorem info2 : (Try.prog.info? 2).map (fun i => (i.zero, i.size, i.bytes)) = some (some (.int .i64 0), 1, 8) := by kernel_rfl
theorem info69 : (Try.prog.info? 69).map (fun i => (i.zero, i.size, i.bytes)) = some (some (.int .i8 0), 1, 1) := by kernel_rfl
-- the values' own types

end Go.Proofs.Ytekaiebfgcjddaa.PGraftApplies
