/- The law FnExactLabelsBoth answers true at every input: a sort, with repetitions left out, comes to the same as a merge of sorted halves; the result is memory of its own. No condition. -/
import Derived.Test.YtckdocofmffheaaQ10
import Derived.Test.YtckdocofmffheaaQ7
import Derived.Test.YtckdocofmffheaaLb
import Derived.Test.YtckdocofmffheaaLbB
import Derived.Test.YtckdocofmffheaaMkL
namespace Go.Proofs.Ytckdocofmffheaa.Pure
set_option linter.unusedSimpArgs false
set_option linter.unusedVariables false
open Go.RowKit Go.Proofs.Ytckdocofmffheaa.Q Go.Proofs.Ytckdocofmffheaa.Pv Go.Proofs.YtckdocofmffheaaW.PrintWords Go.Proofs.YtckdocofmffheaaW.PrintLast Go.Proofs.YtckdocofmffheaaW.PrintMore
theorem FnExactLabelsBoth : ∀ (x0 : List S32) (x1 : List S32), (gL g32) x0 → (gL g32) x1 → ∃ k, laws_FnExactLabelsBoth.f k x0 x1 = some true := by
  intro xs ys gx gy
  refine Ev.rounds ?_
  unfold laws_FnExactLabelsBoth.f
  refine Ev.bnd (ev_szLabelS xs gx _ (by omega) (by omega)) (Ev.ite (fun _ => Ev.val rfl) (fun hs => ?_))
  have h2 := spend_ge hs
  have hl := (labels_fit (by omega) hs).1
  refine Ev.bnd (ev_szLabelS ys gy _ (by omega) (by omega)) (Ev.ite (fun _ => Ev.val rfl) (fun hs2 => ?_))
  have h3 := spend_ge hs2
  have ht := ev_toLabelS xs (by omega)
  have ht2 := ev_toLabelS ys (by omega)
  have hm : (xs.map lbTo).length ≤ 1048576 := by simp; omega
  have hm2 : (ys.map lbTo).length ≤ 1048576 := by simp; omega
  have hsum : (xs.map lbTo).length + (ys.map lbTo).length ≤ 1048576 := by simp; omega
  have hb := LabelsBoth_eq _ _ hsum
  have hbl : (srtD lbLt (xs.map lbTo ++ ys.map lbTo)).length ≤ 1048576 := by
    have := srtD_len (lt := lbLt) (xs.map lbTo ++ ys.map lbTo)
    rw [List.length_append] at this
    omega
  obtain ⟨T, hM, hH⟩ := mark_heldL
  refine Ev.bnd ht (Ev.bnd ht2 (Ev.bnd (ev_spec_LabelsBoth _ _ hsum) (Ev.bnd ht (Ev.bnd ht2 ?_))))
  rw [hb]
  have hM1 := hM (xs.map lbTo) 1 (by omega)
  have hM2 := hM (ys.map lbTo) (1 + 2 * (xs.map lbTo).length) (by omega)
  have hM3 := hM (srtD lbLt (xs.map lbTo ++ ys.map lbTo)) 1 (by omega)
  have hH3 := hH (srtD lbLt (xs.map lbTo ++ ys.map lbTo)).length 1 (by omega)
  refine Ev.some_bind (Ev.bnd (ev_eqLabelS _ hbl) (Ev.pos rfl (Ev.bnd ht (Ev.bnd (ev_eqLabelS _ hm) (Ev.pos rfl (Ev.bnd ht2 (Ev.bnd (ev_eqLabelS _ hm2) (Ev.pos rfl (Ev.bnd hM1 (Ev.bnd hM2 (Ev.neg (by simp only; omega) (Ev.bnd (ev_eqLabelS _ hbl) ?_))))))))))))
  refine Ev.succ ?_
  simp only [laws_FnExactLabelsBoth.j0]
  refine Ev.neg (by simp) (Ev.bnd hM3 (Ev.bnd hH3 (Ev.neg (by omega) (Ev.pos rfl (Ev.bnd ht (Ev.bnd ht2 ?_))))))
  rw [hb]
  exact Ev.some_bind (Ev.bnd (ev_eqLabelS _ hbl) (Ev.pos rfl (Ev.bnd hH3 (Ev.neg (by omega) (Ev.pos rfl (Ev.val rfl))))))
end Go.Proofs.Ytckdocofmffheaa.Pure
