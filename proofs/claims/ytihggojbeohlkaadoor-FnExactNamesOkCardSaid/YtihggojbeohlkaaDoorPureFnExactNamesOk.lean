/- The law FnExactNamesOk answers true at every input. No condition. -/
import Derived.Test.YtihggojbeohlkaaDoorQ17
import Derived.Test.YtihggojbeohlkaaDoorNmO
import Derived.Test.YtihggojbeohlkaaDoorStr
namespace Go.Proofs.YtihggojbeohlkaaDoor.Pure
set_option linter.unusedSimpArgs false
set_option linter.unusedVariables false
open Go.RowKit Go.Proofs.YtihggojbeohlkaaDoor.Q Go.Proofs.YtihggojbeohlkaaDoor.Pv Go.Proofs.YtihggojbeohlkaaDoorW.PrintWords Go.Proofs.YtihggojbeohlkaaDoorW.PrintLast Go.Proofs.YtihggojbeohlkaaDoorW.PrintMore
theorem FnExactNamesOk : ∀ (x0 : List ByteArray), (gL gS) x0 → ∃ k, laws_FnExactNamesOk.f k x0 = some true := by
  intro xs g
  refine Ev.rounds ?_
  unfold laws_FnExactNamesOk.f
  refine Ev.bnd (ev_szStringS xs g _ (by omega) (by omega)) (Ev.ite (fun _ => Ev.val rfl) (fun hs => ?_))
  have hl := (strs_fit hs).1
  have ht := ev_toStringS xs hl
  exact Ev.bnd ht (Ev.bnd (ev_spec_NamesOk xs hl) (Ev.bnd ht (Ev.bnd (ev_NamesOk xs hl) (Ev.neg (by simp) (Ev.bnd ht (Ev.bnd (ev_eqStringS xs hl) (Ev.pos rfl (Ev.val rfl))))))))
end Go.Proofs.YtihggojbeohlkaaDoor.Pure
