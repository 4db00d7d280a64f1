/- The law FnExactReadLabel answers true at every input. No condition. -/
import Derived.Test.YtihggojbeohlkaaDoorQ23
import Derived.Test.YtihggojbeohlkaaDoorQ24
import Derived.Test.YtihggojbeohlkaaDoorRdL
namespace Go.Proofs.YtihggojbeohlkaaDoor.Pure
set_option linter.unusedSimpArgs false
set_option linter.unusedVariables false
open Go.RowKit Go.Proofs.YtihggojbeohlkaaDoor.Q Go.Proofs.YtihggojbeohlkaaDoor.Pv Go.Proofs.YtihggojbeohlkaaDoorW.PrintWords Go.Proofs.YtihggojbeohlkaaDoorW.PrintLast Go.Proofs.YtihggojbeohlkaaDoorW.PrintMore
theorem FnExactReadLabel : ∀ (a0 : ByteArray), a0.size ≤ 140737488351232 → ∃ k, laws_FnExactReadLabel.f k a0 = some true := by
  intro s _
  refine Ev.rounds ?_
  unfold laws_FnExactReadLabel.f
  refine Ev.ite (fun _ => Ev.val rfl) (fun hs => ?_)
  obtain ⟨r, hi, hp⟩ := ev_ReadLabel s (by omega)
  refine Ev.bnd hp (Ev.bnd hi ?_)
  have e : laws_eqLabel.f r.1 r.2.1 r.1 r.2.1 = some true := by
    unfold laws_eqLabel.f
    rw [if_pos rfl, if_pos rfl]
  rw [e]
  exact Ev.some_bind (Ev.pos rfl (Ev.neg (by simp) (Ev.val rfl)))
end Go.Proofs.YtihggojbeohlkaaDoor.Pure
