/- The law FnExactLevelParams answers true at every input. No condition. -/
import Derived.Test.YtjnfehajgogjiaaQ4
import Derived.Test.YtjnfehajgogjiaaLvP
namespace Go.Proofs.Ytjnfehajgogjiaa.Pure
set_option linter.unusedSimpArgs false
set_option linter.unusedVariables false
open Go.RowKit Go.Proofs.Ytjnfehajgogjiaa.Q Go.Proofs.Ytjnfehajgogjiaa.Pv Go.Proofs.YtjnfehajgogjiaaW.PrintWords Go.Proofs.YtjnfehajgogjiaaW.PrintLast Go.Proofs.YtjnfehajgogjiaaW.PrintMore
theorem FnExactLevelParams : laws_FnExactLevelParams.Pure := by
  intro s hs
  refine Ev.rounds ?_
  unfold laws_FnExactLevelParams.f
  exact Ev.ite (fun _ => Ev.val rfl) (fun _ => Ev.bnd (ev_spec_LevelParams s hs) (Ev.bnd (ev_LevelParams s) (Ev.pos rfl (Ev.val rfl))))
end Go.Proofs.Ytjnfehajgogjiaa.Pure
