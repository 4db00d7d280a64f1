/- The law FnExactLabelIn answers true at every input: both sides look for the label from the left. No condition. -/
import Derived.Test.YtbenmnkkfimpcaaQ7
import Derived.Test.YtbenmnkkfimpcaaQ8
import Derived.Test.YtbenmnkkfimpcaaLb
namespace Go.Proofs.Ytbenmnkkfimpcaa.Pure
set_option linter.unusedSimpArgs false
set_option linter.unusedVariables false
open Go.RowKit Go.Proofs.Ytbenmnkkfimpcaa.Q Go.Proofs.Ytbenmnkkfimpcaa.Pv Go.Proofs.YtbenmnkkfimpcaaW.PrintWords Go.Proofs.YtbenmnkkfimpcaaW.PrintLast Go.Proofs.YtbenmnkkfimpcaaW.PrintMore
/-- Is this the label sought? -/
def lbIs (n : Int) (s : ByteArray) (x : S73) : Bool := x.f0 == n && (x.f1.toList == s.toList)
theorem ev_specLabelIn (xs : List S73) (n : Int) (s : ByteArray) (hl : xs.length ≤ 1048576) : Ev (fun k => spec_LabelIn.f k xs n s) (xs.any (lbIs n s)) := by
  unfold spec_LabelIn.f
  refine ev_any xs _ (fun k i => spec_LabelIn.l0 k xs i n s) ?_ (fun i hi r hy hn => ?_)
  · refine Ev.succ ?_
    simp only [spec_LabelIn.l0]
    exact Ev.neg (by omega) (Ev.val rfl)
  · refine Ev.succ ?_
    simp only [spec_LabelIn.l0]
    rw [show rd_T73 xs (i : Int) = xs[i] from getD_at _ _ _ hi, wS i (by omega)]
    exact Ev.pos (by omega) (Ev.pos (by omega) (Ev.ite (fun h => Ev.val (hy h).symm) (fun h => hn (Bool.eq_false_iff.2 h))))
theorem ev_implLabelIn (xs : List S73) (n : Int) (s : ByteArray) (hl : xs.length ≤ 1048576) : Ev (fun k => impl_LabelIn.f k xs n s) (xs.any (lbIs n s)) := by
  unfold impl_LabelIn.f impl_Label_74.f impl_Label_82.f
  obtain ⟨r, h1, h2⟩ := ev_idx xs (lbIs n s) (fun k i => impl_Label_82.l0 k xs (xs.length : Int) i n s) (by
    refine Ev.succ ?_
    simp only [impl_Label_82.l0]
    exact Ev.neg (by omega) (Ev.val rfl)) (fun i hi r hy hn => by
    refine Ev.succ ?_
    simp only [impl_Label_82.l0]
    rw [show rd_T73 xs (i : Int) = xs[i] from getD_at _ _ _ hi, wS i (by omega)]
    have e : (n == xs[i].f0 && (s.toList == xs[i].f1.toList)) = lbIs n s xs[i] := by
      unfold lbIs
      rw [Bool.eq_iff_iff]
      simp only [Bool.and_eq_true, beq_iff_eq]
      exact ⟨fun h => ⟨h.1.symm, h.2.symm⟩, fun h => ⟨h.1.symm, h.2.symm⟩⟩
    rw [e]
    exact Ev.pos (by omega) (Ev.pos (by omega) (Ev.pos (by omega) (Ev.ite (fun h => Ev.val (hy h).symm) (fun h => hn (Bool.eq_false_iff.2 h))))))
  exact Ev.bnd (Ev.bnd h1 (Ev.val rfl)) (Ev.val h2)
theorem FnExactLabelIn : ∀ (x0 : List S70) (x1 : S70), (gL g70) x0 → g70 x1 → ∃ k, laws_FnExactLabelIn.f k x0 x1.f0 x1.f1 = some true := by
  intro xs x g gx
  refine Ev.rounds ?_
  unfold laws_FnExactLabelIn.f
  refine Ev.bnd (ev_szLabelS xs g _ (by omega) (by omega)) (Ev.ite (fun _ => Ev.val rfl) (fun hs => ?_))
  have h2 := spend_ge hs
  have hl := (labels_fit (by omega) hs).1
  have hx : x.f1.size ≤ 9223372036854775807 := gx.2
  rw [szLabel_eq _ _ hx _ (by omega) (by omega)]
  refine Ev.some_bind (Ev.ite (fun _ => Ev.val rfl) (fun _ => ?_))
  have ht := ev_toLabelS xs hl
  have hm : (xs.map lbTo).length ≤ 1048576 := by simp; omega
  refine Ev.bnd ht ?_
  unfold laws_toLabel.f
  exact Ev.some_bind (Ev.bnd (ev_specLabelIn _ _ _ hm) (Ev.bnd ht (Ev.some_bind (Ev.bnd (ev_implLabelIn _ _ _ hm) (Ev.neg (by simp) (Ev.bnd ht (Ev.bnd (ev_eqLabelS _ hm) (Ev.pos rfl (Ev.val rfl)))))))))
end Go.Proofs.Ytbenmnkkfimpcaa.Pure
