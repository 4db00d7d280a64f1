/- The law FnExactLevelEnd answers true at every text and every place. No condition. -/
import Derived.Test.YtlikhgbdlbaklaaQ4
import Derived.Test.YtlikhgbdlbaklaaLvE
import Derived.Test.YtlikhgbdlbaklaaQ2
namespace Go.Proofs.Ytlikhgbdlbaklaa.Pure
open Go.RowKit Go.Proofs.Ytlikhgbdlbaklaa.Q Go.Proofs.Ytlikhgbdlbaklaa.Pv Go.Proofs.YtlikhgbdlbaklaaW.PrintWords Go.Proofs.YtlikhgbdlbaklaaW.PrintLast Go.Proofs.YtlikhgbdlbaklaaW.PrintMore
set_option linter.unusedSimpArgs false
set_option linter.unusedVariables false
theorem FnExactLevelEnd : laws_FnExactLevelEnd.Pure := by
  intro s a hs _
  refine Ev.rounds ?_
  unfold laws_FnExactLevelEnd.f
  refine Ev.ite (fun _ => Ev.val rfl) (fun h => ?_)
  unfold spec_LevelEnd.f impl_LevelEnd.f
  by_cases h1 : (s.size : Int) > 10000
  · refine Ev.bnd (a := -1) (Ev.pos h1 (Ev.val rfl)) (Ev.bnd (a := -1) (Ev.pos h1 (Ev.succ ?_)) (Ev.pos rfl (Ev.val rfl)))
    simp only [impl_LevelEnd.j0]
    exact Ev.pos (by simp) (Ev.val rfl)
  by_cases h2 : 0 ≤ a ∧ a ≤ s.size
  · obtain ⟨n, rfl⟩ := Int.eq_ofNat_of_zero_le h2.1
    refine Ev.bnd (a := endAt s (scan ((bytesOf s).drop n) 1)) (Ev.neg h1 ?_) (Ev.bnd (a := endAt s (scan ((bytesOf s).drop n) 1)) (Ev.neg h1 ?_) (Ev.pos rfl (Ev.val rfl)))
    · unfold spec_l01In.f
      rw [if_pos (by omega)]
      refine Ev.some_bind (Ev.pos (by simp; omega) (Ev.bnd (ev_l04End s hs n (by omega)) (Ev.val rfl)))
    · unfold impl_in.f
      rw [if_pos (by omega)]
      refine Ev.some_bind (Ev.succ ?_)
      simp only [impl_LevelEnd.j0]
      refine Ev.neg (by simp; omega) ?_
      exact impl_end s (by omega) (s.size - n) n 1 (by omega) (by omega)
  · refine Ev.bnd (a := -1) (Ev.neg h1 ?_) (Ev.bnd (a := -1) (Ev.neg h1 ?_) (Ev.pos rfl (Ev.val rfl)))
    · unfold spec_l01In.f
      by_cases h3 : a ≥ 0
      · rw [if_pos h3]
        exact Ev.some_bind (Ev.neg (by simp; omega) (Ev.val rfl))
      · rw [if_neg h3]
        exact Ev.some_bind (Ev.neg (by simp) (Ev.val rfl))
    · unfold impl_in.f
      by_cases h3 : 0 ≤ a
      · rw [if_pos h3]
        refine Ev.some_bind (Ev.succ ?_)
        simp only [impl_LevelEnd.j0]
        exact Ev.pos (by simp; omega) (Ev.val rfl)
      · rw [if_neg h3]
        refine Ev.some_bind (Ev.succ ?_)
        simp only [impl_LevelEnd.j0]
        exact Ev.pos (by simp) (Ev.val rfl)
end Go.Proofs.Ytlikhgbdlbaklaa.Pure
