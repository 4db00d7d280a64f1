/- The law FnExactNameParts answers true at every input: the parts are the same, and each call makes a list of its own. No condition. -/
import Derived.Test.YtihggojbeohlkaaDoorQ13
import Derived.Test.YtihggojbeohlkaaDoorNmP
import Derived.Test.YtihggojbeohlkaaDoorMk
import Derived.Test.YtihggojbeohlkaaDoorEqS
namespace Go.Proofs.YtihggojbeohlkaaDoor.Pure
set_option linter.unusedSimpArgs false
set_option linter.unusedVariables false
open Go.RowKit Go.Proofs.YtihggojbeohlkaaDoor.Q Go.Proofs.YtihggojbeohlkaaDoor.Pv Go.Proofs.YtihggojbeohlkaaDoorW.PrintWords Go.Proofs.YtihggojbeohlkaaDoorW.PrintLast Go.Proofs.YtihggojbeohlkaaDoorW.PrintMore
theorem FnExactNameParts : ∀ (a0 : ByteArray), a0.size ≤ 140737488351232 → ∃ k, laws_FnExactNameParts.f k a0 = some true := by
  intro s _
  refine Ev.rounds ?_
  unfold laws_FnExactNameParts.f
  obtain ⟨r, hi, hp, hl, _⟩ := ev_parts s
  obtain ⟨q, hm, hh⟩ := mark_heldS r (by omega)
  have he := ev_eqStringS r (by omega)
  exact Ev.ite (fun _ => Ev.val rfl) (fun _ => Ev.bnd hp (Ev.bnd hi (Ev.bnd he (Ev.pos rfl (Ev.bnd hm (Ev.bnd hh (Ev.neg (by omega) (Ev.pos rfl (Ev.bnd hi (Ev.bnd he (Ev.pos rfl (Ev.bnd hh (Ev.neg (by omega) (Ev.pos rfl (Ev.val rfl)))))))))))))))
end Go.Proofs.YtihggojbeohlkaaDoor.Pure
