/- The law FnExactLevelAbove answers true at every input. No condition. -/
import Derived.Test.YtjnfehajgogjiaaQ17
import Derived.Test.YtjnfehajgogjiaaLvW
namespace Go.Proofs.Ytjnfehajgogjiaa.Pure
set_option linter.unusedSimpArgs false
set_option linter.unusedVariables false
open Go.RowKit Go.Proofs.Ytjnfehajgogjiaa.Q Go.Proofs.Ytjnfehajgogjiaa.Pv Go.Proofs.YtjnfehajgogjiaaW.PrintWords Go.Proofs.YtjnfehajgogjiaaW.PrintLast Go.Proofs.YtjnfehajgogjiaaW.PrintMore
theorem FnExactLevelAbove : laws_FnExactLevelAbove.Pure := by
  intro s hs
  refine Ev.rounds ?_
  unfold laws_FnExactLevelAbove.f spec_LevelAbove.f impl_LevelAbove.f
  obtain ⟨r, _, _, _, h1, h2⟩ := ev_le ⟨#[43, 122]⟩ s (by decide) hs
  exact Ev.ite (fun _ => Ev.val rfl) (fun _ => Ev.bnd (Ev.bnd h2 (Ev.val rfl)) (Ev.bnd (Ev.bnd h1 (Ev.val rfl)) (Ev.neg (by simp) (Ev.val rfl))))
end Go.Proofs.Ytjnfehajgogjiaa.Pure
