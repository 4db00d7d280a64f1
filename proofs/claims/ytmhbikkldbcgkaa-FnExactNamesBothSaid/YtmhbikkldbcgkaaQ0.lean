/- Printed for this claim by a program of this session (wip/tools/xprint.py) out of the translation: what each Go function comes to, and that it comes to it. Not trusted: Lean checks it. -/
import Derived.Test.YtmhbikkldbcgkaaProg
import Derived.Below
import Derived.Deep.Draws
import Derived.Deep.AppendLies
import Derived.Maps.AppendAt
import Derived.OwnWalk
import Derived.Laws.BytesArg
import Derived.Laws.MakeOwn
import Derived.Laws.OwnMore
import Derived.Deep.OwnRows
import Derived.Tactics
import Derived.Lib.ConvBytes
import Derived.Laws.Slices
import Derived.WalkKit
import Derived.KernelRfl
import Derived.RowKit3
import Derived.Deep.LoopGhost
import Derived.Deep.QuietTactic
import Derived.BigQuiet
import Derived.WideLaws
import Derived.Deep.DeepCutAuto
import Derived.Deep.CutBlock
import Derived.Deep.RegionHeld3
import Derived.Laws.Rows
import Derived.Lib.AppendStr
import Derived.ArgAppend
import Derived.Laws.IdiomCopy
import Derived.OrdersHeld
import Derived.Laws.BitsLemmas
import Derived.RowKit
import Derived.Test.Ytmhbikkldbcgkaaw
import Derived.Test.YtmhbikkldbcgkaaWWords
import Derived.Test.YtmhbikkldbcgkaaWLast
import Derived.Test.YtmhbikkldbcgkaaWTab
import Derived.Test.YtmhbikkldbcgkaaWFour
import Derived.Test.YtmhbikkldbcgkaaWQPut
import Derived.Test.YtmhbikkldbcgkaaWApart
import Derived.Test.YtmhbikkldbcgkaaWArr
import Derived.Test.YtmhbikkldbcgkaaWZeros
import Derived.Test.YtmhbikkldbcgkaaWFoot
import Derived.Test.YtmhbikkldbcgkaaWKept
import Derived.Test.YtmhbikkldbcgkaaWShare
import Derived.Test.YtmhbikkldbcgkaaWN
import Derived.Test.YtmhbikkldbcgkaaWFootNe
import Derived.Test.YtmhbikkldbcgkaaWAt
import Derived.Test.YtmhbikkldbcgkaaWEqStruct
import Derived.Test.YtmhbikkldbcgkaaWRepsOne
import Derived.Test.YtmhbikkldbcgkaaWInv
import Derived.Test.YtmhbikkldbcgkaaWInvWords
import Derived.Test.YtmhbikkldbcgkaaWGuard
import Derived.Test.YtmhbikkldbcgkaaWNEv
import Derived.Test.YtmhbikkldbcgkaaWMore
namespace Go.Proofs.Ytmhbikkldbcgkaa.Q
open Go.RowKit Go.Proofs.YtmhbikkldbcgkaaW.PrintWords Go.Proofs.YtmhbikkldbcgkaaW.PrintLast Go.Proofs.YtmhbikkldbcgkaaW.PrintMore
attribute [local go_sem] max2_int min2_int max_two min_two max_three min_three max_four min_four   -- for this text's walks alone
set_option linter.unusedVariables false
set_option linter.unusedSimpArgs false



def errW : Option Int → Value
  | none => .nilIface
  | some c => .iface 0 (.int .i64 c)
theorem errW_none : errW none = .nilIface := rfl
theorem errW_some (c : Int) : errW (some c) = .iface 0 (.int .i64 c) := rfl

theorem info5 : (Try.prog.info? 5).map (fun i => (i.zero, i.size, i.bytes)) = some (some (.int .u8 0), 1, 1) := by kernel_rfl
theorem info9 : (Try.prog.info? 9).map (fun i => (i.zero, i.size, i.bytes)) = some (some (.string ⟨#[]⟩), 1, 16) := by kernel_rfl
-- the values' own types

end Go.Proofs.Ytmhbikkldbcgkaa.Q
