/- The law FnExactLevelAt answers true at every input. No condition. -/
import Derived.Test.YtjnfehajgogjiaaQ13
import Derived.Test.YtjnfehajgogjiaaLvV
namespace Go.Proofs.Ytjnfehajgogjiaa.Pure
set_option linter.unusedSimpArgs false
set_option linter.unusedVariables false
open Go.RowKit Go.Proofs.Ytjnfehajgogjiaa.Q Go.Proofs.Ytjnfehajgogjiaa.Pv Go.Proofs.YtjnfehajgogjiaaW.PrintWords Go.Proofs.YtjnfehajgogjiaaW.PrintLast Go.Proofs.YtjnfehajgogjiaaW.PrintMore
theorem FnExactLevelAt : laws_FnExactLevelAt.Pure := by
  intro s v hs _ hv _
  refine Ev.rounds ?_
  unfold laws_FnExactLevelAt.f
  refine Ev.ite (fun _ => Ev.val rfl) (fun _ => Ev.ite (fun _ => Ev.val rfl) (fun _ => ?_))
  have h1 := ev_toIntS v (by omega)
  have key : ∃ r, Ev (fun k => impl_LevelAt.f k s v) r ∧ Ev (fun k => spec_LevelAt.f k s v) r := by
    cases hok : lvOk (bytesOf s)
    · exact ⟨-1, ev_LevelAt_no s v hok, ev_spec_LevelAt_no s hs v hok⟩
    · obtain ⟨t, ho, e, hl⟩ := lvOk_tree hok
      rw [e] at hl
      exact ⟨_, ev_LevelAt s v (by omega) t ho hl e, ev_spec_LevelAt s v t ho hl e⟩
  obtain ⟨r, hi, hp⟩ := key
  exact Ev.bnd h1 (Ev.bnd hp (Ev.bnd h1 (Ev.bnd hi (Ev.pos rfl (Ev.bnd h1 (Ev.bnd (ev_eqIntS v (by omega)) (Ev.pos rfl (Ev.val rfl))))))))
end Go.Proofs.Ytjnfehajgogjiaa.Pure
