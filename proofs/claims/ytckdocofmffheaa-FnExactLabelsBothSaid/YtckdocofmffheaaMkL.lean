/- Marks on labels: the laws write numbers and numbered texts into a result and look whether they stand there: they do. No condition but sound lengths. -/
import Derived.Test.YtckdocofmffheaaQ0
import Derived.Test.YtckdocofmffheaaQ8
import Derived.Test.YtckdocofmffheaaQ9
import Derived.Test.YtckdocofmffheaaSl
import Derived.Test.YtckdocofmffheaaBy
import Derived.Test.YtckdocofmffheaaMkT
namespace Go.Proofs.Ytckdocofmffheaa.Pv
set_option linter.unusedSimpArgs false
set_option linter.unusedVariables false
open Go.RowKit Go.Proofs.Ytckdocofmffheaa.Q Go.Proofs.YtckdocofmffheaaW.PrintWords Go.Proofs.YtckdocofmffheaaW.PrintLast Go.Proofs.YtckdocofmffheaaW.PrintMore
theorem mark_heldL : ∃ T : Nat → S35, (∀ (xs : List S35) (m : Nat), m + 2 * xs.length ≤ 140737488351232 → Ev (fun k => laws_markLabelS.f k xs (m : Int)) (((m + 2 * xs.length : Nat) : Int), marks T m 2 xs.length)) ∧
    (∀ n m : Nat, m + 2 * n ≤ 140737488351232 → Ev (fun k => laws_heldLabelS.f k (marks T m 2 n) (m : Int)) ((m + 2 * n : Nat) : Int)) := by
  obtain ⟨T, hT⟩ := mark_text
  refine ⟨fun n => ⟨(n : Int), T (n + 1)⟩, fun xs m hm => ?_, fun n m hm => ?_⟩
  · refine ev_markL xs (fun n => (⟨(n : Int), T (n + 1)⟩ : S35)) m 2 (fun k ys m i => laws_markLabelS.l0 k ys m i) (fun ys q hy => by
      refine Ev.succ ?_
      simp only [laws_markLabelS.l0]
      exact Ev.neg (by omega) (Ev.val rfl)) (fun i ys r hi hy h => by
      refine Ev.succ ?_
      simp only [laws_markLabelS.l0]
      rw [wS (m + 2 * i) (by omega), wS (m + 2 * i + 1) (by omega), wS i (by omega), Int.toNat_natCast]
      refine Ev.pos (by omega) (Ev.pos (by omega) (Ev.some_bind (Ev.bnd (hT _ (by omega)) ?_)))
      have e : (rd_T35 (ys.set i (⟨((m + 2 * i : Nat) : Int), (rd_T35 ys (i : Int)).f1⟩ : S35)) (i : Int)).f0 = ((m + 2 * i : Nat) : Int) := by
        unfold rd_T35
        rw [Int.toNat_natCast, List.getD_eq_getElem?_getD, List.getElem?_set_self (by omega)]
        rfl
      rw [e, List.set_set]
      rw [show m + 2 * (i + 1) = m + 2 * i + 1 + 1 from by omega] at h
      exact h)
  · refine ev_heldL n m 2 (fun k q i => laws_heldLabelS.l0 k (marks (fun n => (⟨(n : Int), T (n + 1)⟩ : S35)) m 2 n) q i) (fun q => by
      refine Ev.succ ?_
      simp only [laws_heldLabelS.l0]
      exact Ev.neg (by rw [marks_length]; omega) (Ev.val rfl)) (fun i r hi h => by
      have hm2 : i < (marks (fun n => (⟨(n : Int), T (n + 1)⟩ : S35)) m 2 n).length := by rw [marks_length]; exact hi
      have e : rd_T35 (marks (fun n => (⟨(n : Int), T (n + 1)⟩ : S35)) m 2 n) (i : Int) = ⟨((m + 2 * i : Nat) : Int), T (m + 2 * i + 1)⟩ := by
        unfold rd_T35
        rw [Int.toNat_natCast, List.getD_eq_getElem?_getD, List.getElem?_eq_getElem hm2, marks_at]
        rfl
      refine Ev.succ ?_
      simp only [laws_heldLabelS.l0]
      rw [e, wS (m + 2 * i) (by omega), wS (m + 2 * i + 1) (by omega), wS i (by omega)]
      rw [show m + 2 * (i + 1) = m + 2 * i + 1 + 1 from by omega] at h
      exact Ev.pos (by omega) (Ev.pos (by omega) (Ev.pos rfl (Ev.bnd (hT _ (by omega)) (Ev.pos rfl h)))))
end Go.Proofs.Ytckdocofmffheaa.Pv
