/- The law FnExactNamesBoth answers true at every input: a sort, with repetitions left out, comes to the same as a merge of sorted halves; the result is memory of its own. No condition. -/
import Derived.Test.YtmhbikkldbcgkaaQ3
import Derived.Test.YtmhbikkldbcgkaaQ6
import Derived.Test.YtmhbikkldbcgkaaStr
import Derived.Test.YtmhbikkldbcgkaaEqS
import Derived.Test.YtmhbikkldbcgkaaNmS
import Derived.Test.YtmhbikkldbcgkaaMk
import Derived.Test.YtmhbikkldbcgkaaRow
namespace Go.Proofs.Ytmhbikkldbcgkaa.Pure
set_option linter.unusedSimpArgs false
set_option linter.unusedVariables false
open Go.RowKit Go.Proofs.Ytmhbikkldbcgkaa.Q Go.Proofs.Ytmhbikkldbcgkaa.Pv Go.Proofs.YtmhbikkldbcgkaaW.PrintWords Go.Proofs.YtmhbikkldbcgkaaW.PrintLast Go.Proofs.YtmhbikkldbcgkaaW.PrintMore
theorem FnExactNamesBoth : ∀ (x0 : List ByteArray) (x1 : List ByteArray), (gL gS) x0 → (gL gS) x1 → ∃ k, laws_FnExactNamesBoth.f k x0 x1 = some true := by
  intro xs ys gx gy
  refine Ev.rounds ?_
  unfold laws_FnExactNamesBoth.f
  refine Ev.bnd (ev_szStringS xs gx _ (by omega) (by omega)) (Ev.ite (fun _ => Ev.val rfl) (fun hs => ?_))
  have h2 := spend_ge hs
  have hl := (strs_fit hs).1
  refine Ev.bnd (ev_szStringS ys gy _ (by omega) (by omega)) (Ev.ite (fun _ => Ev.val rfl) (fun hs2 => ?_))
  have h3 := spend_ge hs2
  have hsum : xs.length + ys.length ≤ 1048576 := by omega
  have ht := ev_toStringS xs (by omega)
  have ht2 := ev_toStringS ys (by omega)
  have hb := NamesBoth_eq _ _ hsum
  have hbl : (srtD sLess (xs ++ ys)).length ≤ 1048576 := by
    have := srtD_len (lt := sLess) (xs ++ ys)
    rw [List.length_append] at this
    omega
  obtain ⟨T, hM, hH⟩ := mark_heldG
  refine Ev.bnd ht (Ev.bnd ht2 (Ev.bnd (ev_spec_NamesBoth _ _ hsum) (Ev.bnd ht (Ev.bnd ht2 ?_))))
  rw [hb]
  have hM1 := hM xs 1 (by omega)
  have hM2 := hM ys (1 + xs.length) (by omega)
  have hM3 := hM (srtD sLess (xs ++ ys)) 1 (by omega)
  have hH3 := hH (srtD sLess (xs ++ ys)).length 1 (by omega)
  refine Ev.some_bind (Ev.bnd (ev_eqStringS _ hbl) (Ev.pos rfl (Ev.bnd ht (Ev.bnd (ev_eqStringS _ (by omega)) (Ev.pos rfl (Ev.bnd ht2 (Ev.bnd (ev_eqStringS _ (by omega)) (Ev.pos rfl (Ev.bnd hM1 (Ev.bnd hM2 (Ev.neg (by simp only; omega) (Ev.bnd (ev_eqStringS _ hbl) ?_))))))))))))
  refine Ev.succ ?_
  simp only [laws_FnExactNamesBoth.j0]
  refine Ev.neg (by simp) (Ev.bnd hM3 (Ev.bnd hH3 (Ev.neg (by omega) (Ev.pos rfl (Ev.bnd ht (Ev.bnd ht2 ?_))))))
  rw [hb]
  exact Ev.some_bind (Ev.bnd (ev_eqStringS _ hbl) (Ev.pos rfl (Ev.bnd hH3 (Ev.neg (by omega) (Ev.pos rfl (Ev.val rfl))))))
end Go.Proofs.Ytmhbikkldbcgkaa.Pure
