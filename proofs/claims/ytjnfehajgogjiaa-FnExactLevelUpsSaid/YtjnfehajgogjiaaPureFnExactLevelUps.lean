/- The law FnExactLevelUps answers true at every input. No condition. -/
import Derived.Test.YtjnfehajgogjiaaQ5
import Derived.Test.YtjnfehajgogjiaaLvP
namespace Go.Proofs.Ytjnfehajgogjiaa.Pure
set_option linter.unusedSimpArgs false
set_option linter.unusedVariables false
open Go.RowKit Go.Proofs.Ytjnfehajgogjiaa.Q Go.Proofs.Ytjnfehajgogjiaa.Pv Go.Proofs.YtjnfehajgogjiaaW.PrintWords Go.Proofs.YtjnfehajgogjiaaW.PrintLast Go.Proofs.YtjnfehajgogjiaaW.PrintMore
theorem FnExactLevelUps : laws_FnExactLevelUps.Pure := by
  intro s hs
  refine Ev.rounds ?_
  unfold laws_FnExactLevelUps.f
  exact Ev.ite (fun _ => Ev.val rfl) (fun _ => Ev.bnd (ev_spec_LevelUps s hs) (Ev.bnd (ev_LevelUps s) (Ev.pos rfl (Ev.val rfl))))
end Go.Proofs.Ytjnfehajgogjiaa.Pure
