/- The law FnExactBrought answers true at every three whole numbers. No condition. -/
import Derived.Test.YtlikhgbdlbaklaaQ1
import Derived.Test.YtlikhgbdlbaklaaEv
import Derived.Test.YtlikhgbdlbaklaaQ1
namespace Go.Proofs.Ytlikhgbdlbaklaa.Pure
open Go.RowKit Go.Proofs.Ytlikhgbdlbaklaa.Q Go.Proofs.Ytlikhgbdlbaklaa.Pv Go.Proofs.YtlikhgbdlbaklaaW.PrintWords Go.Proofs.YtlikhgbdlbaklaaW.PrintLast Go.Proofs.YtlikhgbdlbaklaaW.PrintMore
set_option linter.unusedSimpArgs false
set_option linter.unusedVariables false
theorem FnExactBrought : laws_FnExactBrought.Pure := by
  intro a b c _ _ _
  refine ⟨1, ?_⟩
  simp only [laws_FnExactBrought.f, spec_Brought.f, spec_Brought.j0, impl_Brought.f, mx, mn]
  by_cases h1 : c < a <;> by_cases h2 : a < b <;> by_cases h3 : c < b <;> by_cases h4 : a > c <;> simp [h1, h2, h3, h4] <;> (repeat' split) <;> simp_all <;> omega
end Go.Proofs.Ytlikhgbdlbaklaa.Pure
