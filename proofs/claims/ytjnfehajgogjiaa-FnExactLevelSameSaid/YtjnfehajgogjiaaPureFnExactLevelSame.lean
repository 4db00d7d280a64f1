/- The law FnExactLevelSame answers true at every input. No condition. -/
import Derived.Test.YtjnfehajgogjiaaQ18
import Derived.Test.YtjnfehajgogjiaaLvW
namespace Go.Proofs.Ytjnfehajgogjiaa.Pure
set_option linter.unusedSimpArgs false
set_option linter.unusedVariables false
open Go.RowKit Go.Proofs.Ytjnfehajgogjiaa.Q Go.Proofs.Ytjnfehajgogjiaa.Pv Go.Proofs.YtjnfehajgogjiaaW.PrintWords Go.Proofs.YtjnfehajgogjiaaW.PrintLast Go.Proofs.YtjnfehajgogjiaaW.PrintMore
theorem FnExactLevelSame : laws_FnExactLevelSame.Pure := by
  intro s t hs ht
  refine Ev.rounds ?_
  unfold laws_FnExactLevelSame.f spec_LevelSame.f impl_LevelSame.f
  obtain ⟨r, _, _, _, h1, h2⟩ := ev_le s t hs ht
  obtain ⟨q, _, _, _, k1, k2⟩ := ev_le t s ht hs
  refine Ev.ite (fun _ => Ev.val rfl) (fun _ => Ev.ite (fun _ => Ev.val rfl) (fun _ => ?_))
  have both : ∃ x, Ev (fun k => (spec_LevelLe.f k s t).bind fun a => if a = true then (spec_LevelLe.f k t s).bind fun b => some b else some false) x ∧ Ev (fun k => (impl_LevelLe.f k s t).bind fun a => if a = true then (impl_LevelLe.f k t s).bind fun b => some b else some false) x := by
    cases r
    · exact ⟨false, Ev.bnd h2 (Ev.neg (by simp) (Ev.val rfl)), Ev.bnd h1 (Ev.neg (by simp) (Ev.val rfl))⟩
    · exact ⟨q, Ev.bnd h2 (Ev.pos rfl (Ev.bnd k2 (Ev.val rfl))), Ev.bnd h1 (Ev.pos rfl (Ev.bnd k1 (Ev.val rfl)))⟩
  obtain ⟨x, hx, hy⟩ := both
  exact Ev.bnd hx (Ev.bnd hy (Ev.neg (by simp) (Ev.val rfl)))
end Go.Proofs.Ytjnfehajgogjiaa.Pure
