/- Marks: the laws write numbered texts into a result and look whether they stand there: they do. No condition but sound lengths. -/
import Derived.Test.YtmhbikkldbcgkaaQ4
import Derived.Test.YtmhbikkldbcgkaaQ5
import Derived.Test.YtmhbikkldbcgkaaSl
import Derived.Test.YtmhbikkldbcgkaaBy
import Derived.Test.YtmhbikkldbcgkaaMkT
namespace Go.Proofs.Ytmhbikkldbcgkaa.Pv
set_option linter.unusedSimpArgs false
set_option linter.unusedVariables false
open Go.RowKit Go.Proofs.Ytmhbikkldbcgkaa.Q Go.Proofs.YtmhbikkldbcgkaaW.PrintWords Go.Proofs.YtmhbikkldbcgkaaW.PrintLast Go.Proofs.YtmhbikkldbcgkaaW.PrintMore
theorem mark_heldS (xs : List ByteArray) (hl : xs.length ≤ 140737488351232) : ∃ r, Ev (fun k => laws_markStringS.f k xs 1) (((1 + xs.length : Nat) : Int), r) ∧ Ev (fun k => laws_heldStringS.f k r 1) ((1 + xs.length : Nat) : Int) := by
  obtain ⟨T, hT⟩ := mark_text
  refine ⟨marks T 1 1 xs.length, ?_, ?_⟩
  · have := ev_markL xs T 1 1 (fun k ys m i => laws_markStringS.l0 k ys m i) (fun ys q hy => by
      refine Ev.succ ?_
      simp only [laws_markStringS.l0]
      exact Ev.neg (by omega) (Ev.val rfl)) (fun i ys r hi hy h => by
      refine Ev.succ ?_
      simp only [laws_markStringS.l0]
      refine Ev.pos (by omega) (Ev.bnd (hT _ (by omega)) (Ev.pos (by omega) ?_))
      rw [wS _ (by omega), wS _ (by omega), Int.toNat_natCast]
      rw [show 1 + 1 * (i + 1) = 1 + 1 * i + 1 from by omega] at h
      exact h)
    rw [Nat.one_mul] at this
    exact this
  · have := ev_heldL xs.length 1 1 (fun k m i => laws_heldStringS.l0 k (marks T 1 1 xs.length) m i) (fun q => by
      refine Ev.succ ?_
      simp only [laws_heldStringS.l0]
      exact Ev.neg (by rw [marks_length]; omega) (Ev.val rfl)) (fun i r hi h => by
      have hm : i < (marks T 1 1 xs.length).length := by rw [marks_length]; exact hi
      refine Ev.succ ?_
      simp only [laws_heldStringS.l0]
      refine Ev.pos (by omega) (Ev.pos (by omega) (Ev.bnd (hT _ (by omega)) ?_))
      rw [rdOf_at _ _ _ hm, marks_at]
      refine Ev.pos rfl ?_
      rw [wS _ (by omega), wS _ (by omega)]
      rw [show 1 + 1 * (i + 1) = 1 + 1 * i + 1 from by omega] at h
      exact h)
    rw [Nat.one_mul] at this
    exact this
theorem mark_heldG : ∃ T : Nat → ByteArray, (∀ (xs : List ByteArray) (m : Nat), m + xs.length ≤ 140737488351232 → Ev (fun k => laws_markStringS.f k xs (m : Int)) (((m + xs.length : Nat) : Int), marks T m 1 xs.length)) ∧
    (∀ n m : Nat, m + n ≤ 140737488351232 → Ev (fun k => laws_heldStringS.f k (marks T m 1 n) (m : Int)) ((m + n : Nat) : Int)) := by
  obtain ⟨T, hT⟩ := mark_text
  refine ⟨T, fun xs m hm => ?_, fun n m hm => ?_⟩
  · have := ev_markL xs T m 1 (fun k ys q i => laws_markStringS.l0 k ys q i) (fun ys q hy => by
      refine Ev.succ ?_
      simp only [laws_markStringS.l0]
      exact Ev.neg (by omega) (Ev.val rfl)) (fun i ys r hi hy h => by
      refine Ev.succ ?_
      simp only [laws_markStringS.l0]
      refine Ev.pos (by omega) (Ev.bnd (hT _ (by omega)) (Ev.pos (by omega) ?_))
      rw [wS _ (by omega), wS _ (by omega), Int.toNat_natCast]
      rw [show m + 1 * (i + 1) = m + 1 * i + 1 from by omega] at h
      exact h)
    rw [Nat.one_mul] at this
    exact this
  · have := ev_heldL n m 1 (fun k q i => laws_heldStringS.l0 k (marks T m 1 n) q i) (fun q => by
      refine Ev.succ ?_
      simp only [laws_heldStringS.l0]
      exact Ev.neg (by rw [marks_length]; omega) (Ev.val rfl)) (fun i r hi h => by
      have hm2 : i < (marks T m 1 n).length := by rw [marks_length]; exact hi
      refine Ev.succ ?_
      simp only [laws_heldStringS.l0]
      refine Ev.pos (by omega) (Ev.pos (by omega) (Ev.bnd (hT _ (by omega)) ?_))
      rw [rdOf_at _ _ _ hm2, marks_at]
      refine Ev.pos rfl ?_
      rw [wS _ (by omega), wS _ (by omega)]
      rw [show m + 1 * (i + 1) = m + 1 * i + 1 from by omega] at h
      exact h)
    rw [Nat.one_mul] at this
    exact this
end Go.Proofs.Ytmhbikkldbcgkaa.Pv
