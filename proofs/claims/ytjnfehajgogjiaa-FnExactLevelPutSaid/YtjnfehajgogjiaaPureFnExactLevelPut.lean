/- The law FnExactLevelPut answers true at every input. No condition. -/
import Derived.Test.YtjnfehajgogjiaaQ9
import Derived.Test.YtjnfehajgogjiaaLvU
import Derived.Test.YtjnfehajgogjiaaStr
namespace Go.Proofs.Ytjnfehajgogjiaa.Pure
set_option linter.unusedSimpArgs false
set_option linter.unusedVariables false
open Go.RowKit Go.Proofs.Ytjnfehajgogjiaa.Q Go.Proofs.Ytjnfehajgogjiaa.Pv Go.Proofs.YtjnfehajgogjiaaW.PrintWords Go.Proofs.YtjnfehajgogjiaaW.PrintLast Go.Proofs.YtjnfehajgogjiaaW.PrintMore
theorem FnExactLevelPut : ∀ (a0 : ByteArray) (x1 : List ByteArray), a0.size ≤ 140737488351232 → (gL gS) x1 → ∃ k, laws_FnExactLevelPut.f k a0 x1 = some true := by
  intro s xs hs g
  refine Ev.rounds ?_
  unfold laws_FnExactLevelPut.f
  refine Ev.ite (fun _ => Ev.val rfl) (fun _ => Ev.bnd (ev_szStringS xs g _ (by omega) (by omega)) (Ev.ite (fun _ => Ev.val rfl) (fun hf => ?_)))
  obtain ⟨hl, hx⟩ := strs_fit hf
  have ht := ev_toStringS xs hl
  have key : ∃ r, Ev (fun k => impl_LevelPut.f k s xs) r ∧ Ev (fun k => spec_LevelPut.f k s xs) r := by
    cases hok : lvOk (bytesOf s)
    · exact ⟨_, ev_LevelPut_no s xs hok, ev_spec_LevelPut_no s hs xs hok⟩
    · obtain ⟨t, ho, e, hl'⟩ := lvOk_tree hok
      rw [e] at hl'
      exact ⟨_, ev_LevelPut s xs hl t ho hl' e, ev_spec_LevelPut s xs hl (fun x h => by have := hx x h; omega) t ho hl' e⟩
  obtain ⟨r, hi, hp⟩ := key
  refine Ev.bnd ht (Ev.bnd hp (Ev.bnd ht (Ev.bnd hi (Ev.pos rfl (Ev.succ ?_)))))
  simp only [laws_FnExactLevelPut.j0]
  exact Ev.neg (by simp) (Ev.bnd ht (Ev.bnd (ev_eqStringS xs hl) (Ev.pos rfl (Ev.val rfl))))
end Go.Proofs.Ytjnfehajgogjiaa.Pure
