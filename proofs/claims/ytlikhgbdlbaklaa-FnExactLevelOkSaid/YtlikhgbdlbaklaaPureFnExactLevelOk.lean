/- The law FnExactLevelOk answers true at every text. No condition. -/
import Derived.Test.YtlikhgbdlbaklaaQ4
import Derived.Test.YtlikhgbdlbaklaaLvE
namespace Go.Proofs.Ytlikhgbdlbaklaa.Pure
open Go.RowKit Go.Proofs.Ytlikhgbdlbaklaa.Q Go.Proofs.Ytlikhgbdlbaklaa.Pv Go.Proofs.YtlikhgbdlbaklaaW.PrintWords Go.Proofs.YtlikhgbdlbaklaaW.PrintLast Go.Proofs.YtlikhgbdlbaklaaW.PrintMore
set_option linter.unusedSimpArgs false
set_option linter.unusedVariables false
theorem FnExactLevelOk : laws_FnExactLevelOk.Pure := by
  intro s hs
  refine Ev.rounds ?_
  unfold laws_FnExactLevelOk.f
  refine Ev.ite (fun _ => Ev.val rfl) (fun h => ?_)
  refine Ev.bnd (ev_spec_LevelOk s hs) (Ev.bnd (ev_LevelOk s) (Ev.neg (by simp) (Ev.val rfl)))
end Go.Proofs.Ytlikhgbdlbaklaa.Pure
