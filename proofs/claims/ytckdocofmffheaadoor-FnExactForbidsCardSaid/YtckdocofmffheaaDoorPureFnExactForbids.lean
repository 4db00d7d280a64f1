/- The law FnExactForbids answers true at every input. No condition. -/
import Derived.Test.YtckdocofmffheaaDoorQ15
import Derived.Test.YtckdocofmffheaaDoorQ17
import Derived.Test.YtckdocofmffheaaDoorQ3
import Derived.Test.YtckdocofmffheaaDoorFb
import Derived.Test.YtckdocofmffheaaDoorSzR
import Derived.Test.YtckdocofmffheaaDoorSzL
import Derived.Test.YtckdocofmffheaaDoorOp
namespace Go.Proofs.YtckdocofmffheaaDoor.Pure
set_option linter.unusedSimpArgs false
set_option linter.unusedVariables false
open Go.RowKit Go.Proofs.YtckdocofmffheaaDoor.Q Go.Proofs.YtckdocofmffheaaDoor.Pv Go.Proofs.YtckdocofmffheaaDoorW.PrintWords Go.Proofs.YtckdocofmffheaaDoorW.PrintLast Go.Proofs.YtckdocofmffheaaDoorW.PrintMore
theorem FnExactForbids : ∀ (x0 : S38) (a1 : ByteArray) (x2 : S49), g38 x0 → a1.size ≤ 140737488351232 → g49 x2 → ∃ k, laws_FnExactForbids.f k x0.f0 x0.f1 x0.f2 a1 x2.f0 x2.f1 = some true := by
  intro x s y g _ gy
  have g0 : x.f0.size ≤ 9223372036854775807 := g.1
  have g2 : x.f2.size ≤ 9223372036854775807 := g.2.2
  have g3 : y.f1.size ≤ 9223372036854775807 := gy.2
  refine Ev.rounds ?_
  unfold laws_FnExactForbids.f laws_toRule.f laws_toLabel.f
  refine Ev.ite (fun _ => Ev.val rfl) (fun _ => ?_)
  rw [szRule_eq _ _ _ g0 g2 _ (by omega) (by omega)]
  refine Ev.some_bind (Ev.ite (fun _ => Ev.val rfl) (fun hf => ?_))
  have h := spend_ge hf
  rw [szLabel_eq _ _ g3 _ (by omega) (by omega)]
  exact Ev.some_bind (Ev.ite (fun _ => Ev.val rfl) (fun _ => Ev.some_bind (Ev.some_bind (Ev.bnd (ev_spec_Forbids _ _ _ _ _ _) (Ev.some_bind (Ev.some_bind (Ev.bnd (ev_Forbids _ _ _ _ _ _) (Ev.neg (by simp) (Ev.val rfl)))))))))
end Go.Proofs.YtckdocofmffheaaDoor.Pure
