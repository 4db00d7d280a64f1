/- The law FnExactNameIn answers true at every input: both sides look for the name from the left. No condition. -/
import Derived.Test.YtbenmnkkfimpcaaQ2
import Derived.Test.YtbenmnkkfimpcaaQ3
import Derived.Test.YtbenmnkkfimpcaaQ4
import Derived.Test.YtbenmnkkfimpcaaStr
namespace Go.Proofs.Ytbenmnkkfimpcaa.Pure
set_option linter.unusedSimpArgs false
set_option linter.unusedVariables false
open Go.RowKit Go.Proofs.Ytbenmnkkfimpcaa.Q Go.Proofs.Ytbenmnkkfimpcaa.Pv Go.Proofs.YtbenmnkkfimpcaaW.PrintWords Go.Proofs.YtbenmnkkfimpcaaW.PrintLast Go.Proofs.YtbenmnkkfimpcaaW.PrintMore
theorem ev_specNameIn (xs : List ByteArray) (s : ByteArray) (hl : xs.length ≤ 1048576) : Ev (fun k => spec_NameIn.f k xs s) (xs.any fun x => decide (x.toList = s.toList)) := by
  unfold spec_NameIn.f
  refine ev_any xs _ (fun k i => spec_NameIn.l0 k xs s i) ?_ (fun i hi r hy hn => ?_)
  · refine Ev.succ ?_
    simp only [spec_NameIn.l0]
    exact Ev.neg (by omega) (Ev.val rfl)
  · refine Ev.succ ?_
    simp only [spec_NameIn.l0]
    rw [rdOf_at _ _ _ hi, wS i (by omega)]
    exact Ev.pos (by omega) (Ev.pos (by omega) (Ev.ite (fun h => Ev.val (hy (decide_eq_true h)).symm) (fun h => hn (decide_eq_false h))))
theorem ev_implNameIn (xs : List ByteArray) (s : ByteArray) (hl : xs.length ≤ 1048576) : Ev (fun k => impl_NameIn.f k xs s) (xs.any fun x => decide (x.toList = s.toList)) := by
  unfold impl_NameIn.f slices_Contains_string_string.f slices_Index_string_string.f
  obtain ⟨r, h1, h2⟩ := ev_idx xs (fun x => decide (x.toList = s.toList)) (fun k i => slices_Index_string_string.l0 k xs s (xs.length : Int) i) (by
    refine Ev.succ ?_
    simp only [slices_Index_string_string.l0]
    exact Ev.neg (by omega) (Ev.val rfl)) (fun i hi r hy hn => by
    refine Ev.succ ?_
    simp only [slices_Index_string_string.l0]
    rw [rdOf_at _ _ _ hi, wS i (by omega)]
    exact Ev.pos (by omega) (Ev.pos (by omega) (Ev.pos (by omega) (Ev.ite (fun h => Ev.val (hy (decide_eq_true h.symm)).symm) (fun h => hn (decide_eq_false (fun e => h e.symm)))))))
  exact Ev.bnd (Ev.bnd h1 (Ev.val rfl)) (Ev.val h2)
theorem FnExactNameIn : ∀ (x0 : List ByteArray) (a1 : ByteArray), (gL gS) x0 → a1.size ≤ 140737488351232 → ∃ k, laws_FnExactNameIn.f k x0 a1 = some true := by
  intro xs s g _
  refine Ev.rounds ?_
  unfold laws_FnExactNameIn.f
  refine Ev.ite (fun _ => Ev.val rfl) (fun _ => Ev.bnd (ev_szStringS xs g _ (by omega) (by omega)) (Ev.ite (fun _ => Ev.val rfl) (fun hs => ?_)))
  have hl := (strs_fit hs).1
  have ht := ev_toStringS xs hl
  exact Ev.bnd ht (Ev.bnd (ev_specNameIn xs s hl) (Ev.bnd ht (Ev.bnd (ev_implNameIn xs s hl) (Ev.neg (by simp) (Ev.bnd ht (Ev.bnd (ev_eqStringS xs hl) (Ev.pos rfl (Ev.val rfl))))))))
end Go.Proofs.Ytbenmnkkfimpcaa.Pure
