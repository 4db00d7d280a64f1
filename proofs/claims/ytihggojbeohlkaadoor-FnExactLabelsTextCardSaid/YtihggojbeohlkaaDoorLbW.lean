/- The words of the kinds of labels, of the program and of the reference; a kind is told by its word. No condition. -/
import Derived.Test.YtihggojbeohlkaaDoorNmU
import Derived.Test.YtihggojbeohlkaaDoorQ5
import Derived.Test.YtihggojbeohlkaaDoorQ8
namespace Go.Proofs.YtihggojbeohlkaaDoor.Pv
set_option linter.unusedSimpArgs false
set_option linter.unusedVariables false
open Go.RowKit Go.Proofs.YtihggojbeohlkaaDoor.Q Go.Proofs.YtihggojbeohlkaaDoorW.PrintWords Go.Proofs.YtihggojbeohlkaaDoorW.PrintLast Go.Proofs.YtihggojbeohlkaaDoorW.PrintMore
/-- The word of a kind. -/
def lbWord (n : Int) : ByteArray := if n = 1 then ⟨#[97, 120, 105, 111, 109]⟩ else if n = 2 then ⟨#[111, 112, 97, 113, 117, 101]⟩ else if n = 3 then ⟨#[117, 110, 115, 97, 102, 101]⟩ else if n = 4 then ⟨#[110, 111, 117, 110, 105, 118]⟩ else ⟨#[110, 111, 112, 111, 115]⟩
theorem l03Word_eq (n : Int) : spec_l03Word.f n = some (lbWord n) := by
  unfold spec_l03Word.f lbWord
  by_cases h1 : n = 1
  · simp only [if_pos h1]
  · by_cases h2 : n = 2
    · simp only [if_neg h1, if_pos h2]
    · by_cases h3 : n = 3
      · simp only [if_neg h1, if_neg h2, if_pos h3]
      · by_cases h4 : n = 4
        · simp only [if_neg h1, if_neg h2, if_neg h3, if_pos h4]
        · simp only [if_neg h1, if_neg h2, if_neg h3, if_neg h4]
theorem labelWord_eq (n : Int) (h : 1 ≤ n ∧ n ≤ 5) : impl_labelWord.f n = some (lbWord n) := by
  have hn : n = 1 ∨ n = 2 ∨ n = 3 ∨ n = 4 ∨ n = 5 := by omega
  rcases hn with rfl | rfl | rfl | rfl | rfl <;> decide +kernel
theorem lbWord_size (n : Int) : (lbWord n).size ≤ 6 := by
  unfold lbWord
  repeat (first | split | decide)
theorem lbWord_inj {i j : Int} (hi : 1 ≤ i ∧ i ≤ 5) (hj : 1 ≤ j ∧ j ≤ 5) (h : lbWord i = lbWord j) : i = j := by
  have hi' : i = 1 ∨ i = 2 ∨ i = 3 ∨ i = 4 ∨ i = 5 := by omega
  have hj' : j = 1 ∨ j = 2 ∨ j = 3 ∨ j = 4 ∨ j = 5 := by omega
  rcases hi' with rfl | rfl | rfl | rfl | rfl <;> rcases hj' with rfl | rfl | rfl | rfl | rfl <;> first | rfl | (exfalso; revert h; decide)
end Go.Proofs.YtihggojbeohlkaaDoor.Pv
