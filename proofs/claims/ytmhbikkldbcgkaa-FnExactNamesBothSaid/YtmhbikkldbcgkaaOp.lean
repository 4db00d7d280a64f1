/- Readings of this program's own structs: what can be read as data of such a type is of the kind by which the printed walks read it. No condition. (Printed by wip/tools/rowx.py.) -/
import Derived.Test.YtmhbikkldbcgkaaRow
import Derived.Test.YtmhbikkldbcgkaaQ0
import Derived.KernelRfl
namespace Go.Proofs.Ytmhbikkldbcgkaa.Pv
open Go.RowKit Go.Proofs.YtmhbikkldbcgkaaW.PrintWords
end Go.Proofs.Ytmhbikkldbcgkaa.Pv
