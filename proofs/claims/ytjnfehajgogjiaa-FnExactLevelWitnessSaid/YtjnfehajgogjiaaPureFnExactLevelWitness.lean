/- The law FnExactLevelWitness answers true at every input. No condition. -/
import Derived.Test.YtjnfehajgogjiaaQ19
import Derived.Test.YtjnfehajgogjiaaLvW
namespace Go.Proofs.Ytjnfehajgogjiaa.Pure
set_option linter.unusedSimpArgs false
set_option linter.unusedVariables false
open Go.RowKit Go.Proofs.Ytjnfehajgogjiaa.Q Go.Proofs.Ytjnfehajgogjiaa.Pv Go.Proofs.YtjnfehajgogjiaaW.PrintWords Go.Proofs.YtjnfehajgogjiaaW.PrintLast Go.Proofs.YtjnfehajgogjiaaW.PrintMore
theorem FnExactLevelWitness : laws_FnExactLevelWitness.Pure := by
  intro s t hs ht
  refine Ev.rounds ?_
  unfold laws_FnExactLevelWitness.f
  refine Ev.ite (fun _ => Ev.val rfl) (fun _ => Ev.ite (fun _ => Ev.val rfl) (fun _ => ?_))
  obtain ⟨r, hr, h1, h2⟩ := ev_witness s t hs ht
  have h3 := witR_len hr
  refine Ev.bnd h2 (Ev.bnd h1 (Ev.bnd (ev_eqIntS r.1 (by omega)) (Ev.pos rfl (Ev.succ ?_))))
  simp only [laws_FnExactLevelWitness.j0]
  obtain ⟨m, hm, hh⟩ := mark_held r.1 (by omega)
  refine Ev.neg (by simp) (Ev.bnd hm (Ev.bnd hh (Ev.neg (by omega) (Ev.pos rfl (Ev.bnd h1 (Ev.bnd (ev_eqIntS r.1 (by omega)) (Ev.pos rfl (Ev.succ ?_))))))))
  simp only [laws_FnExactLevelWitness.j1]
  exact Ev.neg (by simp) (Ev.bnd hh (Ev.neg (by omega) (Ev.pos rfl (Ev.val rfl))))
end Go.Proofs.Ytjnfehajgogjiaa.Pure
