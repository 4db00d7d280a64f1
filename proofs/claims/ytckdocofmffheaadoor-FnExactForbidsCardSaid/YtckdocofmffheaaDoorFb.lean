/- What Forbids comes to, of the program and of the reference. No condition beyond the sizes. -/
import Derived.Test.YtckdocofmffheaaDoorRl
import Derived.Test.YtckdocofmffheaaDoorQ15
import Derived.Test.YtckdocofmffheaaDoorQ16
namespace Go.Proofs.YtckdocofmffheaaDoor.Pv
set_option linter.unusedSimpArgs false
set_option linter.unusedVariables false
open Go.RowKit Go.Proofs.YtckdocofmffheaaDoor.Q Go.Proofs.YtckdocofmffheaaDoorW.PrintWords Go.Proofs.YtckdocofmffheaaDoorW.PrintLast Go.Proofs.YtckdocofmffheaaDoorW.PrintMore
/-- Does the rule (p, n, a) forbid the label (m, t) to the name s? -/
def rlForbids (p : ByteArray) (n : Int) (a s : ByteArray) (m : Int) (t : ByteArray) : Bool := rlOk p n a && (nmUnder p s && (decide (n = m) && (decide (a.toList = []) || (a.toList == t.toList))))
theorem ev_Forbids (p : ByteArray) (n : Int) (a s : ByteArray) (m : Int) (t : ByteArray) : Ev (fun k => impl_Forbids.f k p n a s m t) (rlForbids p n a s m t) := by
  unfold impl_Forbids.f rlForbids
  refine Ev.bnd (ev_RuleOk p n a) ?_
  by_cases h : rlOk p n a = true
  · have hp := (rlOk_of h).1
    rw [h, Bool.true_and]
    refine Ev.pos rfl (Ev.bnd (ev_Under p s (by omega)) ?_)
    cases h2 : nmUnder p s
    · exact Ev.neg (by simp) (Ev.val rfl)
    · rw [Bool.true_and]
      refine Ev.pos rfl (Ev.ite (fun e => ?_) (fun e => Ev.val ?_))
      · rw [decide_eq_true e.symm, Bool.true_and]
        refine Ev.ite (fun e2 => Ev.val ?_) (fun e2 => Ev.val ?_)
        · rw [decide_eq_true e2, Bool.true_or]
        · rw [decide_eq_false e2, Bool.false_or]
      · rw [decide_eq_false (fun z => e z.symm), Bool.false_and]
  · rw [Bool.eq_false_iff.2 h, Bool.false_and]
    exact Ev.neg (by simp) (Ev.val rfl)
theorem ev_spec_Forbids (p : ByteArray) (n : Int) (a s : ByteArray) (m : Int) (t : ByteArray) : Ev (fun k => spec_Forbids.f k p n a s m t) (rlForbids p n a s m t) := by
  unfold spec_Forbids.f rlForbids
  refine Ev.bnd (ev_spec_RuleOk p n a) ?_
  by_cases h : rlOk p n a = true
  · rw [h, Bool.true_and]
    refine Ev.pos rfl (Ev.bnd (ev_spec_Under p s) ?_)
    cases h2 : nmUnder p s
    · exact Ev.neg (by simp) (Ev.val rfl)
    · rw [Bool.true_and]
      refine Ev.pos rfl (Ev.ite (fun e => ?_) (fun e => Ev.val ?_))
      · rw [decide_eq_true e, Bool.true_and]
        refine Ev.ite (fun e2 => Ev.val ?_) (fun e2 => Ev.val ?_)
        · rw [decide_eq_true e2, Bool.true_or]
        · rw [decide_eq_false e2, Bool.false_or]
      · rw [decide_eq_false e, Bool.false_and]
  · rw [Bool.eq_false_iff.2 h, Bool.false_and]
    exact Ev.neg (by simp) (Ev.val rfl)
end Go.Proofs.YtckdocofmffheaaDoor.Pv
