/- The law FnExactUnhex answers true at every input. No condition. -/
import Derived.Test.YtbenmnkkfimpcaaQ6
import Derived.Test.YtbenmnkkfimpcaaHx
namespace Go.Proofs.Ytbenmnkkfimpcaa.Pure
set_option linter.unusedSimpArgs false
set_option linter.unusedVariables false
open Go.RowKit Go.Proofs.Ytbenmnkkfimpcaa.Q Go.Proofs.Ytbenmnkkfimpcaa.Pv Go.Proofs.YtbenmnkkfimpcaaW.PrintWords Go.Proofs.YtbenmnkkfimpcaaW.PrintLast Go.Proofs.YtbenmnkkfimpcaaW.PrintMore
theorem FnExactUnhex : laws_FnExactUnhex.Pure := by
  intro s _
  refine Ev.rounds ?_
  unfold laws_FnExactUnhex.f
  exact Ev.ite (fun _ => Ev.val rfl) (fun _ => Ev.bnd (ev_spec_Unhex s) (Ev.bnd (ev_Unhex s) (Ev.pos rfl (Ev.neg (by simp) (Ev.val rfl)))))
end Go.Proofs.Ytbenmnkkfimpcaa.Pure
