/- Slices of strings in the laws: their comparison. No condition but sound lengths. -/
import Derived.Test.YtmhbikkldbcgkaaQ4
import Derived.Test.YtmhbikkldbcgkaaSl
namespace Go.Proofs.Ytmhbikkldbcgkaa.Pv
set_option linter.unusedSimpArgs false
set_option linter.unusedVariables false
open Go.RowKit Go.Proofs.Ytmhbikkldbcgkaa.Q Go.Proofs.YtmhbikkldbcgkaaW.PrintWords Go.Proofs.YtmhbikkldbcgkaaW.PrintLast Go.Proofs.YtmhbikkldbcgkaaW.PrintMore
theorem ev_eqStringS (xs : List ByteArray) (hl : xs.length ≤ 1048576) : Ev (fun k => laws_eqStringS.f k xs xs) true := by
  unfold laws_eqStringS.f
  refine Ev.pos rfl (ev_all xs.length true (fun k i => laws_eqStringS.l0 k xs xs i) ?_ (fun i hi h => ?_))
  · refine Ev.succ ?_
    simp only [laws_eqStringS.l0]
    exact Ev.neg (by omega) (Ev.val rfl)
  · refine Ev.succ ?_
    simp only [laws_eqStringS.l0]
    rw [wS i (by omega)]
    exact Ev.pos (by omega) (Ev.pos (by omega) (Ev.pos (by omega) (Ev.pos trivial h)))
end Go.Proofs.Ytmhbikkldbcgkaa.Pv
