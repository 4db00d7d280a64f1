/- The kinds of labels: 1 to 5, by both tests. No condition. -/
import Derived.Test.YtihggojbeohlkaaDoorEv
import Derived.Test.YtihggojbeohlkaaDoorQ5
import Derived.Test.YtihggojbeohlkaaDoorQ8
namespace Go.Proofs.YtihggojbeohlkaaDoor.Pv
set_option linter.unusedSimpArgs false
set_option linter.unusedVariables false
open Go.RowKit Go.Proofs.YtihggojbeohlkaaDoor.Q Go.Proofs.YtihggojbeohlkaaDoorW.PrintWords Go.Proofs.YtihggojbeohlkaaDoorW.PrintLast Go.Proofs.YtihggojbeohlkaaDoorW.PrintMore
theorem l01In15 (n : Int) : spec_l01In.f n 1 5 = some (decide (1 ≤ n ∧ n ≤ 5)) := by
  unfold spec_l01In.f
  by_cases h : n ≥ 1
  · rw [if_pos h]
    congr 1
    rw [decide_eq_decide]
    omega
  · rw [if_neg h, decide_eq_false (by omega)]
theorem in15 (n : Int) : impl_in.f n 1 5 = some (decide (1 ≤ n ∧ n ≤ 5)) := by
  unfold impl_in.f
  by_cases h : 1 ≤ n
  · rw [if_pos h]
    congr 1
    rw [decide_eq_decide]
    omega
  · rw [if_neg h, decide_eq_false (by omega)]
theorem isKind_eq (n : Int) : impl_isLabelKind.f n = some (decide (1 ≤ n ∧ n ≤ 5)) := by
  unfold impl_isLabelKind.f
  rw [in15]
  rfl
end Go.Proofs.YtihggojbeohlkaaDoor.Pv
