/- What LabelOk and LabelText come to, of the program and of the reference. No condition beyond the sizes. -/
import Derived.Test.YtihggojbeohlkaaDoorNmE
import Derived.Test.YtihggojbeohlkaaDoorLbK
import Derived.Test.YtihggojbeohlkaaDoorQ5
import Derived.Test.YtihggojbeohlkaaDoorQ8
namespace Go.Proofs.YtihggojbeohlkaaDoor.Pv
set_option linter.unusedSimpArgs false
set_option linter.unusedVariables false
open Go.RowKit Go.Proofs.YtihggojbeohlkaaDoor.Q Go.Proofs.YtihggojbeohlkaaDoorW.PrintWords Go.Proofs.YtihggojbeohlkaaDoorW.PrintLast Go.Proofs.YtihggojbeohlkaaDoorW.PrintMore
def lbOk (n : Int) (s : ByteArray) : Bool := decide (1 ≤ n ∧ n ≤ 5) && nameOk (bytesOf s)
theorem ev_LabelOk (n : Int) (s : ByteArray) : Ev (fun k => impl_LabelOk.f k n s) (lbOk n s) := by
  unfold impl_LabelOk.f lbOk
  rw [isKind_eq]
  refine Ev.some_bind ?_
  by_cases h : 1 ≤ n ∧ n ≤ 5
  · rw [decide_eq_true h, Bool.true_and]
    exact Ev.pos rfl (Ev.bnd (ev_NameOk s) (Ev.val rfl))
  · rw [decide_eq_false h, Bool.false_and]
    exact Ev.neg (by simp) (Ev.val rfl)
theorem ev_spec_LabelOk (n : Int) (s : ByteArray) : Ev (fun k => spec_LabelOk.f k n s) (lbOk n s) := by
  unfold spec_LabelOk.f lbOk
  rw [l01In15]
  refine Ev.some_bind ?_
  by_cases h : 1 ≤ n ∧ n ≤ 5
  · rw [decide_eq_true h, Bool.true_and]
    exact Ev.pos rfl (Ev.bnd (ev_spec_NameOk s) (Ev.val rfl))
  · rw [decide_eq_false h, Bool.false_and]
    exact Ev.neg (by simp) (Ev.val rfl)
theorem lbOk_of {n : Int} {s : ByteArray} (h : lbOk n s = true) : (1 ≤ n ∧ n ≤ 5) ∧ nameOk (bytesOf s) = true := by
  unfold lbOk at h
  rw [Bool.and_eq_true] at h
  exact ⟨of_decide_eq_true h.1, h.2⟩
end Go.Proofs.YtihggojbeohlkaaDoor.Pv
