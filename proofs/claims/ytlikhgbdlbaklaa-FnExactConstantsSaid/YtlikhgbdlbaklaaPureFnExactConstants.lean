/- The law FnExactConstants answers true. No condition. -/
import Derived.Test.YtlikhgbdlbaklaaQ1
import Derived.Test.YtlikhgbdlbaklaaEv
namespace Go.Proofs.Ytlikhgbdlbaklaa.Pure
open Go.RowKit Go.Proofs.Ytlikhgbdlbaklaa.Q Go.Proofs.Ytlikhgbdlbaklaa.Pv Go.Proofs.YtlikhgbdlbaklaaW.PrintWords Go.Proofs.YtlikhgbdlbaklaaW.PrintLast Go.Proofs.YtlikhgbdlbaklaaW.PrintMore
set_option linter.unusedSimpArgs false
set_option linter.unusedVariables false
theorem FnExactConstants : laws_FnExactConstants.Pure := rfl
end Go.Proofs.Ytlikhgbdlbaklaa.Pure
