/- What NamesOk comes to, of the program and of the reference. No condition beyond the sizes. -/
import Derived.Test.YtihggojbeohlkaaDoorNmE
import Derived.Test.YtihggojbeohlkaaDoorQ15
import Derived.Test.YtihggojbeohlkaaDoorQ16
namespace Go.Proofs.YtihggojbeohlkaaDoor.Pv
set_option linter.unusedSimpArgs false
set_option linter.unusedVariables false
open Go.RowKit Go.Proofs.YtihggojbeohlkaaDoor.Q Go.Proofs.YtihggojbeohlkaaDoorW.PrintWords Go.Proofs.YtihggojbeohlkaaDoorW.PrintLast Go.Proofs.YtihggojbeohlkaaDoorW.PrintMore
/-- The i-th name is one, and behind the one ahead of it. -/
def nmAt (xs : List ByteArray) (i : Nat) : Bool := nameOk (bytesOf (xs.getD i ByteArray.empty)) && (decide (i = 0) || Op.bytesLess (xs.getD (i - 1) ByteArray.empty).toList (xs.getD i ByteArray.empty).toList)
def nmsOk (xs : List ByteArray) : Bool := (List.range xs.length).all (nmAt xs)
theorem rdOf_nat (xs : List ByteArray) (i : Nat) : rdOf ByteArray.empty xs (i : Int) = xs.getD i ByteArray.empty := rfl
theorem ev_spec_NamesOk (xs : List ByteArray) (hl : xs.length ≤ 1048576) : Ev (fun k => spec_NamesOk.f k xs) (nmsOk xs) := by
  unfold spec_NamesOk.f nmsOk
  refine ev_every xs.length (nmAt xs) (fun k i => spec_NamesOk.l0 k xs i) ?_ (fun i r hi hn hy => ?_)
  · refine Ev.succ ?_
    simp only [spec_NamesOk.l0]
    exact Ev.neg (by omega) (Ev.val rfl)
  · refine Ev.succ ?_
    simp only [spec_NamesOk.l0]
    rw [rdOf_nat, wS i (by omega)]
    refine Ev.pos (by omega) (Ev.pos (by omega) (Ev.bnd (ev_spec_NameOk _) ?_))
    unfold nmAt at hn hy
    refine Ev.ite (fun ho => ?_) (fun ho => Ev.val ?_)
    · rw [ho, Bool.true_and] at hn hy
      cases i with
      | zero => exact Ev.neg (by omega) (hy rfl)
      | succ j =>
        rw [wP j (by omega), rdOf_nat]
        refine Ev.pos (by omega) (Ev.pos (by omega) (Ev.pos (by omega) (Ev.ite (fun hb => hy ?_) (fun hb => Ev.val (hn ?_).symm))))
        · rw [decide_eq_false (by omega), Bool.false_or]
          exact hb
        · rw [decide_eq_false (by omega), Bool.false_or]
          exact Bool.eq_false_iff.2 hb
    · rw [Bool.eq_false_iff.2 ho, Bool.false_and] at hn
      exact (hn rfl).symm
theorem ev_NamesOk (xs : List ByteArray) (hl : xs.length ≤ 1048576) : Ev (fun k => impl_NamesOk.f k xs) (nmsOk xs) := by
  unfold impl_NamesOk.f nmsOk
  refine ev_every xs.length (nmAt xs) (fun k i => impl_NamesOk.l0 k xs xs (xs.length : Int) i) ?_ (fun i r hi hn hy => ?_)
  · refine Ev.succ ?_
    simp only [impl_NamesOk.l0]
    exact Ev.neg (by omega) (Ev.val rfl)
  · refine Ev.succ ?_
    simp only [impl_NamesOk.l0]
    rw [rdOf_nat, wS i (by omega)]
    refine Ev.pos (by omega) (Ev.pos (by omega) (Ev.pos (by omega) (Ev.bnd (ev_NameOk _) ?_)))
    unfold nmAt at hn hy
    refine Ev.ite (fun ho => ?_) (fun ho => Ev.val ?_)
    · rw [ho, Bool.true_and] at hn hy
      cases i with
      | zero => exact Ev.neg (by omega) (hy rfl)
      | succ j =>
        rw [wP j (by omega), rdOf_nat]
        refine Ev.pos (by omega) (Ev.pos (by omega) (Ev.pos (by omega) (Ev.ite (fun hb => hy ?_) (fun hb => Ev.val (hn ?_).symm))))
        · rw [decide_eq_false (by omega), Bool.false_or]
          exact hb
        · rw [decide_eq_false (by omega), Bool.false_or]
          exact Bool.eq_false_iff.2 hb
    · rw [Bool.eq_false_iff.2 ho, Bool.false_and] at hn
      exact (hn rfl).symm
end Go.Proofs.YtihggojbeohlkaaDoor.Pv
