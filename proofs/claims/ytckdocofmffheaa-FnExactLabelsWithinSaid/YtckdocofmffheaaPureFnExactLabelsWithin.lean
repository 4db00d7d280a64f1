/- The law FnExactLabelsWithin answers true at every input: each label sought among the others comes to the same as two sorted lists walked side by side. No condition. -/
import Derived.Test.YtckdocofmffheaaQ5
import Derived.Test.YtckdocofmffheaaQ7
import Derived.Test.YtckdocofmffheaaLb
import Derived.Test.YtckdocofmffheaaLbS
namespace Go.Proofs.Ytckdocofmffheaa.Pure
set_option linter.unusedSimpArgs false
set_option linter.unusedVariables false
open Go.RowKit Go.Proofs.Ytckdocofmffheaa.Q Go.Proofs.Ytckdocofmffheaa.Pv Go.Proofs.YtckdocofmffheaaW.PrintWords Go.Proofs.YtckdocofmffheaaW.PrintLast Go.Proofs.YtckdocofmffheaaW.PrintMore
theorem FnExactLabelsWithin : ∀ (x0 : List S32) (x1 : List S32), (gL g32) x0 → (gL g32) x1 → ∃ k, laws_FnExactLabelsWithin.f k x0 x1 = some true := by
  intro xs ys gx gy
  refine Ev.rounds ?_
  unfold laws_FnExactLabelsWithin.f
  refine Ev.bnd (ev_szLabelS xs gx _ (by omega) (by omega)) (Ev.ite (fun _ => Ev.val rfl) (fun hs => ?_))
  have h2 := spend_ge hs
  have hl := (labels_fit (by omega) hs).1
  refine Ev.bnd (ev_szLabelS ys gy _ (by omega) (by omega)) (Ev.ite (fun _ => Ev.val rfl) (fun hs2 => ?_))
  have hl2 := (labels_fit (by omega) hs2).1
  have ht := ev_toLabelS xs (by omega)
  have ht2 := ev_toLabelS ys (by omega)
  have hm : (xs.map lbTo).length ≤ 1048576 := by simp; omega
  have hm2 : (ys.map lbTo).length ≤ 1048576 := by simp; omega
  refine Ev.bnd ht (Ev.bnd ht2 (Ev.bnd (ev_spec_LabelsWithin _ _ hm hm2) (Ev.bnd ht (Ev.bnd ht2 ?_))))
  unfold impl_LabelsWithin.f
  rw [if_pos hm2]
  refine Ev.some_bind (Ev.neg (by unfold lbWithin; simp) (Ev.bnd ht (Ev.bnd (ev_eqLabelS _ hm) (Ev.pos rfl (Ev.bnd ht2 (Ev.bnd (ev_eqLabelS _ hm2) (Ev.pos rfl (Ev.val rfl))))))))
end Go.Proofs.Ytckdocofmffheaa.Pure
