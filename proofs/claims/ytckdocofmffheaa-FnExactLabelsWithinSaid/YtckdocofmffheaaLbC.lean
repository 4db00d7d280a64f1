/- Labels compared: by kind and then by name, of the program and of the reference; the order is strict and total. No condition. -/
import Derived.Test.YtckdocofmffheaaBy
import Derived.Test.YtckdocofmffheaaBo
import Derived.Test.YtckdocofmffheaaQ0
import Derived.Test.YtckdocofmffheaaQ2
namespace Go.Proofs.Ytckdocofmffheaa.Pv
set_option linter.unusedSimpArgs false
set_option linter.unusedVariables false
open Go.RowKit Go.Proofs.Ytckdocofmffheaa.Q Go.Proofs.YtckdocofmffheaaW.PrintWords Go.Proofs.YtckdocofmffheaaW.PrintLast Go.Proofs.YtckdocofmffheaaW.PrintMore
def lbLess (n : Int) (s : ByteArray) (m : Int) (t : ByteArray) : Bool := decide (n < m) || (decide (n = m) && Op.bytesLess s.toList t.toList)
def cmpI (a b : Int) : Int := if a < b then -1 else if a > b then 1 else 0
def cmpS (a b : ByteArray) : Int := if Op.bytesLess a.toList b.toList = true then -1 else if Op.bytesLess b.toList a.toList = true then 1 else 0
theorem less_eq (n : Int) (s : ByteArray) (m : Int) (t : ByteArray) : spec_l03Less.f n s m t = some (lbLess n s m t) := by
  unfold spec_l03Less.f lbLess
  by_cases h1 : n < m
  · rw [if_pos h1, decide_eq_true h1, Bool.true_or]
  · rw [if_neg h1, decide_eq_false h1, Bool.false_or]
    by_cases h2 : n = m
    · rw [if_pos h2, decide_eq_true h2, Bool.true_and]
    · rw [if_neg h2, decide_eq_false h2, Bool.false_and]
abbrev lbGet (xs : List S35) (i : Nat) : S35 := xs.getD i z35
theorem rdT_nat (xs : List S35) (i : Nat) : rd_T35 xs (i : Int) = lbGet xs i := rfl
def lbLt (x y : S35) : Bool := lbLess x.f0 x.f1 y.f0 y.f1
theorem lbLt_so : SO lbLt := by
  refine ⟨fun x => ?_, fun x y z h1 h2 => ?_, fun x y h1 h2 => ?_⟩
  · simp [lbLt, lbLess, bless_irr]
  · simp only [lbLt, lbLess, Bool.or_eq_true, decide_eq_true_eq, Bool.and_eq_true] at *
    rcases h1 with h1 | ⟨e1, h1⟩
    · rcases h2 with h2 | ⟨e2, h2⟩
      · exact .inl (by omega)
      · exact .inl (by omega)
    · rcases h2 with h2 | ⟨e2, h2⟩
      · exact .inl (by omega)
      · exact .inr ⟨by omega, bless_tr _ _ _ h1 h2⟩
  · cases x
    cases y
    simp only [lbLt, lbLess, Bool.or_eq_false_iff, decide_eq_false_iff_not, Bool.and_eq_false_iff] at h1 h2
    rename_i n s m t
    have e : n = m := by
      have := h1.1
      have := h2.1
      omega
    subst e
    have h3 : Op.bytesLess s.toList t.toList = false := by simpa using h1.2
    have h4 : Op.bytesLess t.toList s.toList = false := by simpa using h2.2
    rw [toList_eq_iff.1 (bless_tot _ _ h3 h4)]
theorem lb_ne (x y : S35) : ((!(x.f0 == y.f0) || !(x.f1.toList == y.f1.toList)) = true) ↔ x ≠ y := by
  obtain ⟨n, s⟩ := x
  obtain ⟨m, t⟩ := y
  by_cases h1 : n = m
  · by_cases h2 : s = t
    · subst h1
      subst h2
      simp
    · have h3 : ¬ s.toList = t.toList := fun e => h2 (toList_eq_iff.1 e)
      simp [h1, h2, h3]
  · simp [h1]
end Go.Proofs.Ytckdocofmffheaa.Pv
