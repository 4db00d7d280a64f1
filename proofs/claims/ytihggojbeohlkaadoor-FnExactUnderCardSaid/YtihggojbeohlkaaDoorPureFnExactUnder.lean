/- The law FnExactUnder answers true at every input. No condition. -/
import Derived.Test.YtihggojbeohlkaaDoorQ10
import Derived.Test.YtihggojbeohlkaaDoorNmP
namespace Go.Proofs.YtihggojbeohlkaaDoor.Pure
set_option linter.unusedSimpArgs false
set_option linter.unusedVariables false
open Go.RowKit Go.Proofs.YtihggojbeohlkaaDoor.Q Go.Proofs.YtihggojbeohlkaaDoor.Pv Go.Proofs.YtihggojbeohlkaaDoorW.PrintWords Go.Proofs.YtihggojbeohlkaaDoorW.PrintLast Go.Proofs.YtihggojbeohlkaaDoorW.PrintMore
theorem FnExactUnder : ∀ (a0 : ByteArray) (a1 : ByteArray), a0.size ≤ 140737488351232 → a1.size ≤ 140737488351232 → ∃ k, laws_FnExactUnder.f k a0 a1 = some true := by
  intro a b ha _
  refine Ev.rounds ?_
  unfold laws_FnExactUnder.f
  exact Ev.ite (fun _ => Ev.val rfl) (fun _ => Ev.ite (fun _ => Ev.val rfl) (fun _ => Ev.bnd (ev_spec_Under a b) (Ev.bnd (ev_Under a b ha) (Ev.neg (by simp) (Ev.val rfl)))))
end Go.Proofs.YtihggojbeohlkaaDoor.Pure
