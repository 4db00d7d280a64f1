/- The law FnExactLabelText answers true at every input. No condition. -/
import Derived.Test.YtihggojbeohlkaaDoorQ18
import Derived.Test.YtihggojbeohlkaaDoorQ21
import Derived.Test.YtihggojbeohlkaaDoorLbT
import Derived.Test.YtihggojbeohlkaaDoorSzL
import Derived.Test.YtihggojbeohlkaaDoorOp
namespace Go.Proofs.YtihggojbeohlkaaDoor.Pure
set_option linter.unusedSimpArgs false
set_option linter.unusedVariables false
open Go.RowKit Go.Proofs.YtihggojbeohlkaaDoor.Q Go.Proofs.YtihggojbeohlkaaDoor.Pv Go.Proofs.YtihggojbeohlkaaDoorW.PrintWords Go.Proofs.YtihggojbeohlkaaDoorW.PrintLast Go.Proofs.YtihggojbeohlkaaDoorW.PrintMore
theorem FnExactLabelText : ∀ (x0 : S38), g38 x0 → ∃ k, laws_FnExactLabelText.f k x0.f0 x0.f1 = some true := by
  intro x g
  have gs : x.f1.size ≤ 9223372036854775807 := g.2
  refine Ev.rounds ?_
  unfold laws_FnExactLabelText.f laws_toLabel.f
  rw [szLabel_eq _ _ gs _ (by omega) (by omega)]
  exact Ev.some_bind (Ev.ite (fun _ => Ev.val rfl) (fun _ => Ev.some_bind (Ev.bnd (ev_spec_LabelText _ _) (Ev.some_bind (Ev.bnd (ev_LabelText _ _) (Ev.pos rfl (Ev.neg (by simp) (Ev.val rfl))))))))
end Go.Proofs.YtihggojbeohlkaaDoor.Pure
