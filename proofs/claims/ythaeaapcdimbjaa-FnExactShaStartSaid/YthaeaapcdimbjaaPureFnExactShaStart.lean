/- The law FnExactShaStart answers true: all lists are known, so it is run. No condition. -/
import Derived.Test.YthaeaapcdimbjaaQ3
import Derived.Test.YthaeaapcdimbjaaEv
namespace Go.Proofs.Ythaeaapcdimbjaa.Pure
open Go.RowKit Go.Proofs.Ythaeaapcdimbjaa.Q Go.Proofs.Ythaeaapcdimbjaa.Pv Go.Proofs.YthaeaapcdimbjaaW.PrintWords Go.Proofs.YthaeaapcdimbjaaW.PrintLast Go.Proofs.YthaeaapcdimbjaaW.PrintMore
set_option linter.unusedSimpArgs false
set_option linter.unusedVariables false
set_option maxRecDepth 10000 in
theorem FnExactShaStart : laws_FnExactShaStart.Pure := ⟨9, by decide +kernel⟩
end Go.Proofs.Ythaeaapcdimbjaa.Pure
