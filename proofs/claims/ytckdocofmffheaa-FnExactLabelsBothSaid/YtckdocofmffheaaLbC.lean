/- Labels compared: by kind and then by name, of the program and of the reference; the order is strict and total. No condition. -/
import Derived.Test.YtckdocofmffheaaBy
import Derived.Test.YtckdocofmffheaaBo
import Derived.Test.YtckdocofmffheaaQ0
import Derived.Test.YtckdocofmffheaaQ3
import Derived.Test.YtckdocofmffheaaQ5
import Derived.Test.YtckdocofmffheaaQ6
namespace Go.Proofs.Ytckdocofmffheaa.Pv
set_option linter.unusedSimpArgs false
set_option linter.unusedVariables false
open Go.RowKit Go.Proofs.Ytckdocofmffheaa.Q Go.Proofs.YtckdocofmffheaaW.PrintWords Go.Proofs.YtckdocofmffheaaW.PrintLast Go.Proofs.YtckdocofmffheaaW.PrintMore
def lbLess (n : Int) (s : ByteArray) (m : Int) (t : ByteArray) : Bool := decide (n < m) || (decide (n = m) && Op.bytesLess s.toList t.toList)
def cmpI (a b : Int) : Int := if a < b then -1 else if a > b then 1 else 0
def cmpS (a b : ByteArray) : Int := if Op.bytesLess a.toList b.toList = true then -1 else if Op.bytesLess b.toList a.toList = true then 1 else 0
theorem compareI_eq (a b : Int) : cmp_Compare_int.f a b = some (cmpI a b) := by
  unfold cmp_Compare_int.f cmp_isNaN_int.f cmpI
  have e : ∀ x : Int, (x != x) = false := fun x => by simp
  rw [e, e]
  simp only [Option.bind_some, Bool.false_eq_true, if_false]
  by_cases h1 : a < b
  · rw [if_pos h1, if_pos h1]
  · rw [if_neg h1, if_neg h1]
    by_cases h2 : a > b
    · rw [if_pos h2, if_pos h2]
    · rw [if_neg h2, if_neg h2]
theorem compareS_eq (a b : ByteArray) : cmp_Compare_string.f a b = some (cmpS a b) := by
  unfold cmp_Compare_string.f cmp_isNaN_string.f cmpS
  have e : ∀ x : List UInt8, (x != x) = false := fun x => by simp
  rw [e, e]
  simp only [Option.bind_some, Bool.false_eq_true, if_false]
  by_cases h1 : Op.bytesLess a.toList b.toList = true
  · rw [if_pos h1, if_pos h1]
  · rw [if_neg h1, if_neg h1]
    by_cases h2 : Op.bytesLess b.toList a.toList = true
    · rw [if_pos h2, if_pos h2]
    · rw [if_neg h2, if_neg h2]
theorem ev_Or2 (c d : Int) : Ev (fun k => cmp_Or_int.f k [c, d]) (if c = 0 then d else c) := by
  have r0 : rd [c, d] 0 = c := rfl
  have r1 : rd [c, d] 1 = d := rfl
  have w0 : wrap64 (0 + 1) = 1 := by decide +kernel
  have w1 : wrap64 (1 + 1) = 2 := by decide +kernel
  unfold cmp_Or_int.f
  refine Ev.succ ?_
  simp only [cmp_Or_int.l0]
  rw [r0, w0]
  refine Ev.pos (by simp) (Ev.pos (by omega) (Ev.pos (by simp) (Ev.ite (fun h => ?_) (fun h => Ev.val ?_))))
  · rw [if_pos h]
    refine Ev.succ ?_
    simp only [cmp_Or_int.l0]
    rw [r1, w1]
    refine Ev.pos (by simp) (Ev.pos (by omega) (Ev.pos (by simp) (Ev.ite (fun h => ?_) (fun h => Ev.val rfl))))
    refine Ev.succ ?_
    simp only [cmp_Or_int.l0]
    exact Ev.neg (by simp) (Ev.val h.symm)
  · rw [if_neg h]
theorem ev_compare (n : Int) (s : ByteArray) (m : Int) (t : ByteArray) : ∃ r : Int, Ev (fun k => impl_compareLabels.f k n s m t) r ∧ (r ≥ 0 ↔ lbLess n s m t = false) := by
  refine ⟨if cmpI n m = 0 then cmpS s t else cmpI n m, ?_, ?_⟩
  · unfold impl_compareLabels.f
    rw [compareI_eq, compareS_eq]
    exact Ev.some_bind (Ev.some_bind (Ev.bnd (ev_Or2 _ _) (Ev.val rfl)))
  · unfold lbLess cmpI cmpS
    by_cases h1 : n < m
    · simp [h1]
    · by_cases h2 : n > m
      · have h3 : ¬ n = m := by omega
        simp [h1, h2, h3]
      · have h3 : n = m := by omega
        subst h3
        cases h4 : Op.bytesLess s.toList t.toList
        · cases h5 : Op.bytesLess t.toList s.toList <;> simp
        · simp
theorem less_eq (n : Int) (s : ByteArray) (m : Int) (t : ByteArray) : spec_l03Less.f n s m t = some (lbLess n s m t) := by
  unfold spec_l03Less.f lbLess
  by_cases h1 : n < m
  · rw [if_pos h1, decide_eq_true h1, Bool.true_or]
  · rw [if_neg h1, decide_eq_false h1, Bool.false_or]
    by_cases h2 : n = m
    · rw [if_pos h2, decide_eq_true h2, Bool.true_and]
    · rw [if_neg h2, decide_eq_false h2, Bool.false_and]
abbrev lbGet (xs : List S35) (i : Nat) : S35 := xs.getD i z35
theorem rdT_nat (xs : List S35) (i : Nat) : rd_T35 xs (i : Int) = lbGet xs i := rfl
def lbLt (x y : S35) : Bool := lbLess x.f0 x.f1 y.f0 y.f1
theorem lbLt_so : SO lbLt := by
  refine ⟨fun x => ?_, fun x y z h1 h2 => ?_, fun x y h1 h2 => ?_⟩
  · simp [lbLt, lbLess, bless_irr]
  · simp only [lbLt, lbLess, Bool.or_eq_true, decide_eq_true_eq, Bool.and_eq_true] at *
    rcases h1 with h1 | ⟨e1, h1⟩
    · rcases h2 with h2 | ⟨e2, h2⟩
      · exact .inl (by omega)
      · exact .inl (by omega)
    · rcases h2 with h2 | ⟨e2, h2⟩
      · exact .inl (by omega)
      · exact .inr ⟨by omega, bless_tr _ _ _ h1 h2⟩
  · cases x
    cases y
    simp only [lbLt, lbLess, Bool.or_eq_false_iff, decide_eq_false_iff_not, Bool.and_eq_false_iff] at h1 h2
    rename_i n s m t
    have e : n = m := by
      have := h1.1
      have := h2.1
      omega
    subst e
    have h3 : Op.bytesLess s.toList t.toList = false := by simpa using h1.2
    have h4 : Op.bytesLess t.toList s.toList = false := by simpa using h2.2
    rw [toList_eq_iff.1 (bless_tot _ _ h3 h4)]
theorem lb_ne (x y : S35) : ((!(x.f0 == y.f0) || !(x.f1.toList == y.f1.toList)) = true) ↔ x ≠ y := by
  obtain ⟨n, s⟩ := x
  obtain ⟨m, t⟩ := y
  by_cases h1 : n = m
  · by_cases h2 : s = t
    · subst h1
      subst h2
      simp
    · have h3 : ¬ s.toList = t.toList := fun e => h2 (toList_eq_iff.1 e)
      simp [h1, h2, h3]
  · simp [h1]
end Go.Proofs.Ytckdocofmffheaa.Pv
