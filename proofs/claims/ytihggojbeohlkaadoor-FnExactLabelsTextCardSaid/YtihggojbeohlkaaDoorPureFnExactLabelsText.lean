/- The law FnExactLabelsText answers true at every input. No condition. -/
import Derived.Test.YtihggojbeohlkaaDoorQ10
import Derived.Test.YtihggojbeohlkaaDoorLbJ
import Derived.Test.YtihggojbeohlkaaDoorLb
namespace Go.Proofs.YtihggojbeohlkaaDoor.Pure
set_option linter.unusedSimpArgs false
set_option linter.unusedVariables false
open Go.RowKit Go.Proofs.YtihggojbeohlkaaDoor.Q Go.Proofs.YtihggojbeohlkaaDoor.Pv Go.Proofs.YtihggojbeohlkaaDoorW.PrintWords Go.Proofs.YtihggojbeohlkaaDoorW.PrintLast Go.Proofs.YtihggojbeohlkaaDoorW.PrintMore
theorem FnExactLabelsText : ∀ (x0 : List S38), (gL g38) x0 → ∃ k, laws_FnExactLabelsText.f k x0 = some true := by
  intro xs g
  refine Ev.rounds ?_
  unfold laws_FnExactLabelsText.f
  refine Ev.bnd (ev_szLabelS xs g _ (by omega) (by omega)) (Ev.ite (fun _ => Ev.val rfl) (fun hs => ?_))
  have hl := (labels_fit (by omega) hs).1
  have hm : (xs.map lbTo).length ≤ 1048576 := by simp; omega
  have ht := ev_toLabelS xs hl
  exact Ev.bnd ht (Ev.bnd (ev_spec_LabelsText _ hm) (Ev.bnd ht (Ev.bnd (ev_LabelsText _ hm) (Ev.pos rfl (Ev.bnd ht (Ev.bnd (ev_eqLabelS _ hm) (Ev.pos rfl (Ev.val rfl))))))))
end Go.Proofs.YtihggojbeohlkaaDoor.Pure
