/- Readings of this program's own structs: what can be read as data of such a type is of the kind by which the printed walks read it. No condition. (Printed by wip/tools/rowx.py.) -/
import Derived.Test.YtjnfehajgogjiaaRow
import Derived.Test.YtjnfehajgogjiaaQ0
import Derived.KernelRfl
namespace Go.Proofs.Ytjnfehajgogjiaa.Pv
open Go.RowKit Go.Proofs.YtjnfehajgogjiaaW.PrintWords
end Go.Proofs.Ytjnfehajgogjiaa.Pv
