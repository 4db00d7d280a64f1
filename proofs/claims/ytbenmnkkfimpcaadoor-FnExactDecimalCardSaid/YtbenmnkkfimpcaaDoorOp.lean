/- Readings of this program's own structs: what can be read as data of such a type is of the kind by which the printed walks read it. No condition. (Printed by wip/tools/rowx.py.) -/
import Derived.Test.YtbenmnkkfimpcaaDoorRow
import Derived.Test.YtbenmnkkfimpcaaDoorQ0
import Derived.KernelRfl
namespace Go.Proofs.YtbenmnkkfimpcaaDoor.Pv
open Go.RowKit Go.Proofs.YtbenmnkkfimpcaaDoorW.PrintWords
end Go.Proofs.YtbenmnkkfimpcaaDoor.Pv
