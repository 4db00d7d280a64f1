/- The law FnExactRuleLine answers true at every input. No condition. -/
import Derived.Test.YtckdocofmffheaaDoorQ3
import Derived.Test.YtckdocofmffheaaDoorQ9
import Derived.Test.YtckdocofmffheaaDoorRl
import Derived.Test.YtckdocofmffheaaDoorSzR
import Derived.Test.YtckdocofmffheaaDoorOp
namespace Go.Proofs.YtckdocofmffheaaDoor.Pure
set_option linter.unusedSimpArgs false
set_option linter.unusedVariables false
open Go.RowKit Go.Proofs.YtckdocofmffheaaDoor.Q Go.Proofs.YtckdocofmffheaaDoor.Pv Go.Proofs.YtckdocofmffheaaDoorW.PrintWords Go.Proofs.YtckdocofmffheaaDoorW.PrintLast Go.Proofs.YtckdocofmffheaaDoorW.PrintMore
theorem FnExactRuleLine : ∀ (x0 : S38), g38 x0 → ∃ k, laws_FnExactRuleLine.f k x0.f0 x0.f1 x0.f2 = some true := by
  intro x g
  have g0 : x.f0.size ≤ 9223372036854775807 := g.1
  have g2 : x.f2.size ≤ 9223372036854775807 := g.2.2
  refine Ev.rounds ?_
  unfold laws_FnExactRuleLine.f laws_toRule.f
  rw [szRule_eq _ _ _ g0 g2 _ (by omega) (by omega)]
  exact Ev.some_bind (Ev.ite (fun _ => Ev.val rfl) (fun _ => Ev.some_bind (Ev.bnd (ev_spec_RuleLine _ _ _) (Ev.some_bind (Ev.bnd (ev_RuleLine _ _ _) (Ev.pos rfl (Ev.neg (by simp) (Ev.val rfl))))))))
end Go.Proofs.YtckdocofmffheaaDoor.Pure
