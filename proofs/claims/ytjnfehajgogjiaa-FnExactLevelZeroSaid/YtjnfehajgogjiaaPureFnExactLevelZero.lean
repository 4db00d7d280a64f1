/- The law FnExactLevelZero answers true at every input. No condition. -/
import Derived.Test.YtjnfehajgogjiaaQ18
import Derived.Test.YtjnfehajgogjiaaLvW
namespace Go.Proofs.Ytjnfehajgogjiaa.Pure
set_option linter.unusedSimpArgs false
set_option linter.unusedVariables false
open Go.RowKit Go.Proofs.Ytjnfehajgogjiaa.Q Go.Proofs.Ytjnfehajgogjiaa.Pv Go.Proofs.YtjnfehajgogjiaaW.PrintWords Go.Proofs.YtjnfehajgogjiaaW.PrintLast Go.Proofs.YtjnfehajgogjiaaW.PrintMore
theorem FnExactLevelZero : laws_FnExactLevelZero.Pure := by
  intro s hs
  refine Ev.rounds ?_
  unfold laws_FnExactLevelZero.f spec_LevelZero.f impl_LevelZero.f
  obtain ⟨r, _, _, _, h1, h2⟩ := ev_le s ⟨#[122]⟩ hs (by decide)
  exact Ev.ite (fun _ => Ev.val rfl) (fun _ => Ev.bnd (Ev.bnd h2 (Ev.val rfl)) (Ev.bnd (Ev.bnd h1 (Ev.val rfl)) (Ev.neg (by simp) (Ev.val rfl))))
end Go.Proofs.Ytjnfehajgogjiaa.Pure
