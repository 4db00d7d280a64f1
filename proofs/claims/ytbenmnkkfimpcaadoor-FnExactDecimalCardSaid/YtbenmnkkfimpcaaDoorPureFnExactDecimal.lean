/- The law FnExactDecimal answers true: both make the numeral of Lib.itoa. No condition but an int64. -/
import Derived.Test.YtbenmnkkfimpcaaDoorQ2
import Derived.Test.YtbenmnkkfimpcaaDoorDc
namespace Go.Proofs.YtbenmnkkfimpcaaDoor.Pure
open Go.RowKit Go.Proofs.YtbenmnkkfimpcaaDoor.Q Go.Proofs.YtbenmnkkfimpcaaDoor.Pv Go.Proofs.YtbenmnkkfimpcaaDoorW.PrintWords Go.Proofs.YtbenmnkkfimpcaaDoorW.PrintLast Go.Proofs.YtbenmnkkfimpcaaDoorW.PrintMore
set_option linter.unusedSimpArgs false
set_option linter.unusedVariables false
theorem FnExactDecimal : laws_FnExactDecimal.Pure := by
  intro a0 hw
  have hr : -9223372036854775808 ≤ a0 ∧ a0 ≤ 9223372036854775807 := by
    simp only [Lit.wf, Bool.and_eq_true, decide_eq_true_eq] at hw
    exact hw
  refine Ev.rounds ?_
  unfold laws_FnExactDecimal.f
  refine Ev.bnd (decimal_ev a0 hr.1 hr.2) ?_
  rw [itoa_some a0 hr.1 hr.2]
  exact Ev.some_bind (Ev.pos rfl (Ev.val rfl))
end Go.Proofs.YtbenmnkkfimpcaaDoor.Pure
