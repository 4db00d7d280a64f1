/- Printed for this claim by a program of this session (wip/tools/xprint.py) out of the translation: what each Go function comes to, and that it comes to it. Not trusted: Lean checks it. -/
import Derived.Test.YtckdocofmffheaaDoorProg
import Derived.Below
import Derived.Deep.Draws
import Derived.Deep.AppendLies
import Derived.Maps.AppendAt
import Derived.OwnWalk
import Derived.Laws.BytesArg
import Derived.Laws.MakeOwn
import Derived.Laws.OwnMore
import Derived.Deep.OwnRows
import Derived.Tactics
import Derived.Lib.ConvBytes
import Derived.Laws.Slices
import Derived.WalkKit
import Derived.KernelRfl
import Derived.RowKit3
import Derived.Deep.LoopGhost
import Derived.Deep.QuietTactic
import Derived.BigQuiet
import Derived.WideLaws
import Derived.Deep.DeepCutAuto
import Derived.Deep.CutBlock
import Derived.Deep.RegionHeld3
import Derived.Laws.Rows
import Derived.Lib.AppendStr
import Derived.ArgAppend
import Derived.Laws.IdiomCopy
import Derived.OrdersHeld
import Derived.Laws.BitsLemmas
import Derived.RowKit
import Derived.Test.YtckdocofmffheaaDoorw
import Derived.Shelf.Strings.SplitCore
import Derived.Lib.SplitLaws
import Derived.Test.YtckdocofmffheaaDoorSh
import Derived.Test.YtckdocofmffheaaDoorWWords
import Derived.Test.YtckdocofmffheaaDoorWLast
import Derived.Test.YtckdocofmffheaaDoorWTab
import Derived.Test.YtckdocofmffheaaDoorWFour
import Derived.Test.YtckdocofmffheaaDoorWQPut
import Derived.Test.YtckdocofmffheaaDoorWApart
import Derived.Test.YtckdocofmffheaaDoorWArr
import Derived.Test.YtckdocofmffheaaDoorWZeros
import Derived.Test.YtckdocofmffheaaDoorWFoot
import Derived.Test.YtckdocofmffheaaDoorWKept
import Derived.Test.YtckdocofmffheaaDoorWShare
import Derived.Test.YtckdocofmffheaaDoorWN
import Derived.Test.YtckdocofmffheaaDoorWFootNe
import Derived.Test.YtckdocofmffheaaDoorWAt
import Derived.Test.YtckdocofmffheaaDoorWEqStruct
import Derived.Test.YtckdocofmffheaaDoorWRepsOne
import Derived.Test.YtckdocofmffheaaDoorWInv
import Derived.Test.YtckdocofmffheaaDoorWInvWords
import Derived.Test.YtckdocofmffheaaDoorWGuard
import Derived.Test.YtckdocofmffheaaDoorWNEv
import Derived.Test.YtckdocofmffheaaDoorWMore
namespace Go.Proofs.YtckdocofmffheaaDoor.Q
open Go.RowKit Go.Proofs.YtckdocofmffheaaDoorW.PrintWords Go.Proofs.YtckdocofmffheaaDoorW.PrintLast Go.Proofs.YtckdocofmffheaaDoorW.PrintMore
attribute [local go_sem] max2_int min2_int max_two min_two max_three min_three max_four min_four   -- for this text's walks alone
set_option linter.unusedVariables false
set_option linter.unusedSimpArgs false



def errW : Option Int → Value
  | none => .nilIface
  | some c => .iface 0 (.int .i64 c)
theorem errW_none : errW none = .nilIface := rfl
theorem errW_some (c : Int) : errW (some c) = .iface 0 (.int .i64 c) := rfl

theorem info9 : (Tryd.prog.info? 9).map (fun i => (i.zero, i.size, i.bytes)) = some (some (.string ⟨#[]⟩), 1, 16) := by kernel_rfl
-- the values' own types

end Go.Proofs.YtckdocofmffheaaDoor.Q
