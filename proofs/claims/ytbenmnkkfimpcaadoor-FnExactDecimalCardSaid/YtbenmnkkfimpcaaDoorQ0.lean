/- Printed for this claim by a program of this session (wip/tools/xprint.py) out of the translation: what each Go function comes to, and that it comes to it. Not trusted: Lean checks it. -/
import Derived.Test.YtbenmnkkfimpcaaDoorProg
import Derived.Below
import Derived.Deep.Draws
import Derived.Deep.AppendLies
import Derived.Maps.AppendAt
import Derived.OwnWalk
import Derived.Laws.BytesArg
import Derived.Laws.MakeOwn
import Derived.Laws.OwnMore
import Derived.Deep.OwnRows
import Derived.Tactics
import Derived.Lib.ConvBytes
import Derived.Laws.Slices
import Derived.WalkKit
import Derived.KernelRfl
import Derived.RowKit3
import Derived.Deep.LoopGhost
import Derived.Deep.QuietTactic
import Derived.BigQuiet
import Derived.WideLaws
import Derived.Deep.DeepCutAuto
import Derived.Deep.CutBlock
import Derived.Deep.RegionHeld3
import Derived.Laws.Rows
import Derived.Lib.AppendStr
import Derived.ArgAppend
import Derived.Laws.IdiomCopy
import Derived.OrdersHeld
import Derived.Laws.BitsLemmas
import Derived.RowKit
import Derived.Test.YtbenmnkkfimpcaaDoorw
import Derived.Test.YtbenmnkkfimpcaaDoorWWords
import Derived.Test.YtbenmnkkfimpcaaDoorWLast
import Derived.Test.YtbenmnkkfimpcaaDoorWTab
import Derived.Test.YtbenmnkkfimpcaaDoorWFour
import Derived.Test.YtbenmnkkfimpcaaDoorWQPut
import Derived.Test.YtbenmnkkfimpcaaDoorWApart
import Derived.Test.YtbenmnkkfimpcaaDoorWArr
import Derived.Test.YtbenmnkkfimpcaaDoorWZeros
import Derived.Test.YtbenmnkkfimpcaaDoorWFoot
import Derived.Test.YtbenmnkkfimpcaaDoorWKept
import Derived.Test.YtbenmnkkfimpcaaDoorWShare
import Derived.Test.YtbenmnkkfimpcaaDoorWN
import Derived.Test.YtbenmnkkfimpcaaDoorWFootNe
import Derived.Test.YtbenmnkkfimpcaaDoorWAt
import Derived.Test.YtbenmnkkfimpcaaDoorWEqStruct
import Derived.Test.YtbenmnkkfimpcaaDoorWRepsOne
import Derived.Test.YtbenmnkkfimpcaaDoorWInv
import Derived.Test.YtbenmnkkfimpcaaDoorWInvWords
import Derived.Test.YtbenmnkkfimpcaaDoorWGuard
import Derived.Test.YtbenmnkkfimpcaaDoorWNEv
import Derived.Test.YtbenmnkkfimpcaaDoorWMore
namespace Go.Proofs.YtbenmnkkfimpcaaDoor.Q
open Go.RowKit Go.Proofs.YtbenmnkkfimpcaaDoorW.PrintWords Go.Proofs.YtbenmnkkfimpcaaDoorW.PrintLast Go.Proofs.YtbenmnkkfimpcaaDoorW.PrintMore
attribute [local go_sem] max2_int min2_int max_two min_two max_three min_three max_four min_four   -- for this text's walks alone
set_option linter.unusedVariables false
set_option linter.unusedSimpArgs false



def errW : Option Int → Value
  | none => .nilIface
  | some c => .iface 0 (.int .i64 c)
theorem errW_none : errW none = .nilIface := rfl
theorem errW_some (c : Int) : errW (some c) = .iface 0 (.int .i64 c) := rfl

theorem info5 : (Tryd.prog.info? 5).map (fun i => (i.zero, i.size, i.bytes)) = some (some (.int .u8 0), 1, 1) := by kernel_rfl
-- the values' own types

end Go.Proofs.YtbenmnkkfimpcaaDoor.Q
