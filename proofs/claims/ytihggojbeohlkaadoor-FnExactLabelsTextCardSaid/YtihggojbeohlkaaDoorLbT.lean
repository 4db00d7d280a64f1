/- What LabelText comes to, of the program and of the reference. No condition beyond the sizes. -/
import Derived.Test.YtihggojbeohlkaaDoorLbE
import Derived.Test.YtihggojbeohlkaaDoorLbW
import Derived.Test.YtihggojbeohlkaaDoorQ5
import Derived.Test.YtihggojbeohlkaaDoorQ9
namespace Go.Proofs.YtihggojbeohlkaaDoor.Pv
set_option linter.unusedSimpArgs false
set_option linter.unusedVariables false
open Go.RowKit Go.Proofs.YtihggojbeohlkaaDoor.Q Go.Proofs.YtihggojbeohlkaaDoorW.PrintWords Go.Proofs.YtihggojbeohlkaaDoorW.PrintLast Go.Proofs.YtihggojbeohlkaaDoorW.PrintMore
def lbText (n : Int) (s : ByteArray) : ByteArray × Bool := if lbOk n s = true then ((lbWord n ++ (⟨#[58]⟩ : ByteArray)) ++ s, true) else (⟨#[]⟩, false)
theorem colon_size (a : ByteArray) : (a ++ (⟨#[58]⟩ : ByteArray)).size = a.size + 1 := by
  rw [size_append]
  rfl
theorem ev_LabelText (n : Int) (s : ByteArray) : Ev (fun k => impl_LabelText.f k n s) (lbText n s) := by
  unfold impl_LabelText.f lbText
  refine Ev.bnd (ev_LabelOk n s) ?_
  by_cases h : lbOk n s = true
  · have hs := nameOk_size (lbOk_of h).2
    have hw := lbWord_size n
    rw [labelWord_eq n (lbOk_of h).1]
    exact Ev.cast (Ev.pos h (Ev.some_bind (Ev.pos (by omega) (Ev.pos (by rw [colon_size]; omega) (Ev.val rfl))))) (if_pos h).symm
  · exact Ev.cast (Ev.neg h (Ev.val rfl)) (if_neg h).symm
theorem ev_spec_LabelText (n : Int) (s : ByteArray) : Ev (fun k => spec_LabelText.f k n s) (lbText n s) := by
  unfold spec_LabelText.f lbText
  refine Ev.bnd (ev_spec_LabelOk n s) ?_
  by_cases h : lbOk n s = true
  · have hs := nameOk_size (lbOk_of h).2
    have hw := lbWord_size n
    rw [l03Word_eq n]
    exact Ev.cast (Ev.pos h (Ev.some_bind (Ev.pos (by omega) (Ev.pos (by rw [colon_size]; omega) (Ev.val rfl))))) (if_pos h).symm
  · exact Ev.cast (Ev.neg h (Ev.val rfl)) (if_neg h).symm
end Go.Proofs.YtihggojbeohlkaaDoor.Pv
