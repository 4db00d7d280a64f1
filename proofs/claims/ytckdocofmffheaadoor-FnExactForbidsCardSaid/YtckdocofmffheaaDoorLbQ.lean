/- A kind is told by its word. No condition. -/
import Derived.Test.YtckdocofmffheaaDoorLbW
import Derived.Test.YtckdocofmffheaaDoorQ11
namespace Go.Proofs.YtckdocofmffheaaDoor.Pv
set_option linter.unusedSimpArgs false
set_option linter.unusedVariables false
open Go.RowKit Go.Proofs.YtckdocofmffheaaDoor.Q Go.Proofs.YtckdocofmffheaaDoorW.PrintWords Go.Proofs.YtckdocofmffheaaDoorW.PrintLast Go.Proofs.YtckdocofmffheaaDoorW.PrintMore
theorem ev_labelKind (b : ByteArray) : ∃ q : Int, (0 ≤ q ∧ q ≤ 5) ∧ (∀ j : Int, 1 ≤ j → j ≤ 5 → (b = lbWord j ↔ q = j)) ∧ Ev (fun k => impl_labelKind.f k b) q := by
  have key : ∀ (d i : Nat), i + d = 6 → 1 ≤ i → (∀ j : Int, 1 ≤ j → j < i → b ≠ lbWord j) →
      ∃ q : Int, (0 ≤ q ∧ q ≤ 5) ∧ (∀ j : Int, 1 ≤ j → j ≤ 5 → (b = lbWord j ↔ q = j)) ∧ Ev (fun k => impl_labelKind.l0 k b (i : Int)) q := by
    intro d
    induction d with
    | zero =>
      intro i h _ hb
      refine ⟨0, by omega, fun j h1 h5 => ⟨fun e => absurd e (hb j h1 (by omega)), fun e => by omega⟩, Ev.succ ?_⟩
      simp only [impl_labelKind.l0]
      exact Ev.neg (by omega) (Ev.val rfl)
    | succ d ih =>
      intro i h h1 hb
      by_cases e : (lbWord i).toList = b.toList
      · have e' : lbWord i = b := toList_inj.1 e
        refine ⟨i, by omega, fun j hj1 hj5 => ⟨fun e2 => lbWord_inj (by omega) (by omega) (e'.trans e2), fun e2 => by rw [← e2]; exact e'.symm⟩, Ev.succ ?_⟩
        simp only [impl_labelKind.l0]
        rw [labelWord_eq (i : Int) (by omega)]
        exact Ev.pos (by omega) (Ev.some_bind (Ev.pos e (Ev.val rfl)))
      · obtain ⟨q, hq, hp, he⟩ := ih (i + 1) (by omega) (by omega) (fun j hj1 hj2 => by
          by_cases hji : j < i
          · exact hb j hj1 hji
          · obtain rfl : j = (i : Int) := by omega
            exact fun e2 => e (by rw [e2]))
        refine ⟨q, hq, hp, Ev.succ ?_⟩
        simp only [impl_labelKind.l0]
        rw [labelWord_eq (i : Int) (by omega), wS i (by omega)]
        exact Ev.pos (by omega) (Ev.some_bind (Ev.neg e he))
  exact key 5 1 (by omega) (by omega) (fun j h1 h2 => by omega)
end Go.Proofs.YtckdocofmffheaaDoor.Pv
