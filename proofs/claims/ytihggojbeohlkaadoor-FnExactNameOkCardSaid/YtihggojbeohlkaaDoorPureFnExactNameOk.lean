/- The law FnExactNameOk answers true at every input. No condition. -/
import Derived.Test.YtihggojbeohlkaaDoorQ6
import Derived.Test.YtihggojbeohlkaaDoorNmE
namespace Go.Proofs.YtihggojbeohlkaaDoor.Pure
set_option linter.unusedSimpArgs false
set_option linter.unusedVariables false
open Go.RowKit Go.Proofs.YtihggojbeohlkaaDoor.Q Go.Proofs.YtihggojbeohlkaaDoor.Pv Go.Proofs.YtihggojbeohlkaaDoorW.PrintWords Go.Proofs.YtihggojbeohlkaaDoorW.PrintLast Go.Proofs.YtihggojbeohlkaaDoorW.PrintMore
theorem FnExactNameOk : ∀ (a0 : ByteArray), a0.size ≤ 140737488351232 → ∃ k, laws_FnExactNameOk.f k a0 = some true := by
  intro s _
  refine Ev.rounds ?_
  unfold laws_FnExactNameOk.f
  exact Ev.ite (fun _ => Ev.val rfl) (fun _ => Ev.bnd (ev_spec_NameOk s) (Ev.bnd (ev_NameOk s) (Ev.neg (by simp) (Ev.val rfl))))
end Go.Proofs.YtihggojbeohlkaaDoor.Pure
