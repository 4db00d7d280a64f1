/- Printed for this claim by a program of this session (wip/tools/xprint.py) out of the translation: what each Go function comes to, and that it comes to it. Not trusted: Lean checks it. -/
import Derived.Test.YthaeaapcdimbjaaProg
import Derived.Below
import Derived.Deep.Draws
import Derived.Deep.AppendLies
import Derived.Maps.AppendAt
import Derived.OwnWalk
import Derived.Laws.BytesArg
import Derived.Laws.MakeOwn
import Derived.Laws.OwnMore
import Derived.Deep.OwnRows
import Derived.Tactics
import Derived.Lib.ConvBytes
import Derived.Laws.Slices
import Derived.WalkKit
import Derived.KernelRfl
import Derived.RowKit3
import Derived.Deep.LoopGhost
import Derived.Deep.QuietTactic
import Derived.BigQuiet
import Derived.WideLaws
import Derived.Deep.DeepCutAuto
import Derived.Deep.CutBlock
import Derived.Deep.RegionHeld3
import Derived.Laws.Rows
import Derived.Lib.AppendStr
import Derived.ArgAppend
import Derived.Laws.IdiomCopy
import Derived.OrdersHeld
import Derived.Laws.BitsLemmas
import Derived.RowKit
import Derived.Test.Ythaeaapcdimbjaaw
import Derived.Test.YthaeaapcdimbjaaWWords
import Derived.Test.YthaeaapcdimbjaaWLast
import Derived.Test.YthaeaapcdimbjaaWTab
import Derived.Test.YthaeaapcdimbjaaWFour
import Derived.Test.YthaeaapcdimbjaaWQPut
import Derived.Test.YthaeaapcdimbjaaWApart
import Derived.Test.YthaeaapcdimbjaaWArr
import Derived.Test.YthaeaapcdimbjaaWZeros
import Derived.Test.YthaeaapcdimbjaaWFoot
import Derived.Test.YthaeaapcdimbjaaWKept
import Derived.Test.YthaeaapcdimbjaaWShare
import Derived.Test.YthaeaapcdimbjaaWN
import Derived.Test.YthaeaapcdimbjaaWFootNe
import Derived.Test.YthaeaapcdimbjaaWAt
import Derived.Test.YthaeaapcdimbjaaWEqStruct
import Derived.Test.YthaeaapcdimbjaaWRepsOne
import Derived.Test.YthaeaapcdimbjaaWInv
import Derived.Test.YthaeaapcdimbjaaWInvWords
import Derived.Test.YthaeaapcdimbjaaWGuard
import Derived.Test.YthaeaapcdimbjaaWNEv
import Derived.Test.YthaeaapcdimbjaaWMore
namespace Go.Proofs.Ythaeaapcdimbjaa.Q
open Go.RowKit Go.Proofs.YthaeaapcdimbjaaW.PrintWords Go.Proofs.YthaeaapcdimbjaaW.PrintLast Go.Proofs.YthaeaapcdimbjaaW.PrintMore
attribute [local go_sem] max2_int min2_int max_two min_two max_three min_three max_four min_four   -- for this text's walks alone
set_option linter.unusedVariables false
set_option linter.unusedSimpArgs false



def errW : Option Int → Value
  | none => .nilIface
  | some c => .iface 0 (.int .i64 c)
theorem errW_none : errW none = .nilIface := rfl
theorem errW_some (c : Int) : errW (some c) = .iface 0 (.int .i64 c) := rfl

-- the values' own types

end Go.Proofs.Ythaeaapcdimbjaa.Q
