/- The law FnExactLevelLe answers true at every input. No condition. -/
import Derived.Test.YtjnfehajgogjiaaQ17
import Derived.Test.YtjnfehajgogjiaaLvW
namespace Go.Proofs.Ytjnfehajgogjiaa.Pure
set_option linter.unusedSimpArgs false
set_option linter.unusedVariables false
open Go.RowKit Go.Proofs.Ytjnfehajgogjiaa.Q Go.Proofs.Ytjnfehajgogjiaa.Pv Go.Proofs.YtjnfehajgogjiaaW.PrintWords Go.Proofs.YtjnfehajgogjiaaW.PrintLast Go.Proofs.YtjnfehajgogjiaaW.PrintMore
theorem FnExactLevelLe : laws_FnExactLevelLe.Pure := by
  intro s t hs ht
  refine Ev.rounds ?_
  unfold laws_FnExactLevelLe.f
  obtain ⟨r, _, _, _, h1, h2⟩ := ev_le s t hs ht
  exact Ev.ite (fun _ => Ev.val rfl) (fun _ => Ev.ite (fun _ => Ev.val rfl) (fun _ => Ev.bnd h2 (Ev.bnd h1 (Ev.neg (by simp) (Ev.val rfl)))))
end Go.Proofs.Ytjnfehajgogjiaa.Pure
