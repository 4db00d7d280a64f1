/- What RuleOk, RuleLine and ReadRule come to, of the program and of the reference. No condition beyond the sizes. -/
import Derived.Test.YtckdocofmffheaaDoorLbK
import Derived.Test.YtckdocofmffheaaDoorLbQ
import Derived.Test.YtckdocofmffheaaDoorQ3
import Derived.Test.YtckdocofmffheaaDoorQ5
import Derived.Test.YtckdocofmffheaaDoorQ7
import Derived.Test.YtckdocofmffheaaDoorQ8
namespace Go.Proofs.YtckdocofmffheaaDoor.Pv
set_option linter.unusedSimpArgs false
set_option linter.unusedVariables false
open Go.RowKit Go.Proofs.YtckdocofmffheaaDoor.Q Go.Proofs.YtckdocofmffheaaDoorW.PrintWords Go.Proofs.YtckdocofmffheaaDoorW.PrintLast Go.Proofs.YtckdocofmffheaaDoorW.PrintMore
def rlOk (p : ByteArray) (n : Int) (a : ByteArray) : Bool := nameOk (bytesOf p) && (decide (1 ≤ n ∧ n ≤ 5) && (decide (a.toList = []) || nameOk (bytesOf a)))
theorem ev_RuleOk (p : ByteArray) (n : Int) (a : ByteArray) : Ev (fun k => impl_RuleOk.f k p n a) (rlOk p n a) := by
  unfold impl_RuleOk.f rlOk
  refine Ev.bnd (ev_NameOk p) ?_
  cases h1 : nameOk (bytesOf p)
  · exact Ev.neg (by simp) (Ev.val rfl)
  refine Ev.pos rfl ?_
  rw [isKind_eq, Bool.true_and]
  refine Ev.some_bind ?_
  by_cases h2 : 1 ≤ n ∧ n ≤ 5
  · rw [decide_eq_true h2, Bool.true_and]
    refine Ev.pos rfl (Ev.ite (fun h3 => Ev.val ?_) (fun h3 => Ev.bnd (ev_NameOk a) (Ev.val ?_)))
    · rw [decide_eq_true h3, Bool.true_or]
    · rw [decide_eq_false h3, Bool.false_or]
  · rw [decide_eq_false h2, Bool.false_and]
    exact Ev.neg (by simp) (Ev.val rfl)
theorem ev_spec_RuleOk (p : ByteArray) (n : Int) (a : ByteArray) : Ev (fun k => spec_RuleOk.f k p n a) (rlOk p n a) := by
  unfold spec_RuleOk.f rlOk
  refine Ev.bnd (ev_spec_NameOk p) ?_
  cases h1 : nameOk (bytesOf p)
  · exact Ev.neg (by simp) (Ev.val rfl)
  refine Ev.pos rfl ?_
  rw [l01In15, Bool.true_and]
  refine Ev.some_bind ?_
  by_cases h2 : 1 ≤ n ∧ n ≤ 5
  · rw [decide_eq_true h2, Bool.true_and]
    refine Ev.pos rfl (Ev.ite (fun h3 => Ev.val ?_) (fun h3 => Ev.bnd (ev_spec_NameOk a) (Ev.val ?_)))
    · rw [decide_eq_true h3, Bool.true_or]
    · rw [decide_eq_false h3, Bool.false_or]
  · rw [decide_eq_false h2, Bool.false_and]
    exact Ev.neg (by simp) (Ev.val rfl)
theorem rlOk_of {p : ByteArray} {n : Int} {a : ByteArray} (h : rlOk p n a = true) : p.size ≤ 40 ∧ (1 ≤ n ∧ n ≤ 5) ∧ a.size ≤ 40 := by
  unfold rlOk at h
  simp only [Bool.and_eq_true, Bool.or_eq_true, decide_eq_true_iff] at h
  refine ⟨nameOk_size h.1, h.2.1, ?_⟩
  rcases h.2.2 with e | e
  · have := (toList_nil a).1 e
    rw [← bl_length, this]
    decide
  · exact nameOk_size e
def rlHead (p : ByteArray) (n : Int) : ByteArray := ((((⟨#[102, 111, 114, 98, 105, 100, 32]⟩ : ByteArray) ++ p) ++ (⟨#[32]⟩ : ByteArray)) ++ lbWord n) ++ (⟨#[32]⟩ : ByteArray)
def rlTail (a : ByteArray) : ByteArray := if a.toList = [] then ⟨#[42]⟩ else a
def rlLine (p : ByteArray) (n : Int) (a : ByteArray) : ByteArray × Bool := if rlOk p n a = true then (rlHead p n ++ rlTail a, true) else (⟨#[]⟩, false)
theorem lit7 : (⟨#[102, 111, 114, 98, 105, 100, 32]⟩ : ByteArray).size = 7 := rfl
theorem lit1 : (⟨#[32]⟩ : ByteArray).size = 1 := rfl
theorem ev_RuleLine (p : ByteArray) (n : Int) (a : ByteArray) : Ev (fun k => impl_RuleLine.f k p n a) (rlLine p n a) := by
  unfold impl_RuleLine.f rlLine
  refine Ev.bnd (ev_RuleOk p n a) ?_
  by_cases h : rlOk p n a = true
  · obtain ⟨hp, hn, ha⟩ := rlOk_of h
    have hw := lbWord_size n
    rw [labelWord_eq n hn]
    refine Ev.cast (q := (rlHead p n ++ rlTail a, true)) (Ev.pos h (Ev.ite (fun h3 => Ev.pos (by omega) (Ev.pos ?_ (Ev.some_bind (Ev.pos ?_ (Ev.pos ?_ (Ev.pos ?_ (Ev.val ?_))))))) (fun h3 => Ev.pos (by omega) (Ev.pos ?_ (Ev.some_bind (Ev.pos ?_ (Ev.pos ?_ (Ev.pos ?_ (Ev.val ?_))))))))) (if_pos h).symm
    all_goals first | (simp only [size_append, lit7, lit1]; omega) | (unfold rlHead rlTail; rw [if_pos h3]) | (unfold rlHead rlTail; rw [if_neg h3])
  · exact Ev.cast (Ev.neg h (Ev.val rfl)) (if_neg h).symm
theorem ev_spec_RuleLine (p : ByteArray) (n : Int) (a : ByteArray) : Ev (fun k => spec_RuleLine.f k p n a) (rlLine p n a) := by
  unfold spec_RuleLine.f rlLine
  refine Ev.bnd (ev_spec_RuleOk p n a) ?_
  by_cases h : rlOk p n a = true
  · obtain ⟨hp, hn, ha⟩ := rlOk_of h
    have hw := lbWord_size n
    rw [l03Word_eq n]
    refine Ev.cast (q := (rlHead p n ++ rlTail a, true)) (Ev.pos h (Ev.ite (fun h3 => Ev.pos (by omega) (Ev.pos ?_ (Ev.some_bind (Ev.pos ?_ (Ev.pos ?_ (Ev.pos ?_ (Ev.val ?_))))))) (fun h3 => Ev.pos (by omega) (Ev.pos ?_ (Ev.some_bind (Ev.pos ?_ (Ev.pos ?_ (Ev.pos ?_ (Ev.val ?_))))))))) (if_pos h).symm
    all_goals first | (simp only [size_append, lit7, lit1]; omega) | (unfold rlHead rlTail; rw [if_pos h3]) | (unfold rlHead rlTail; rw [if_neg h3])
  · exact Ev.cast (Ev.neg h (Ev.val rfl)) (if_neg h).symm
end Go.Proofs.YtckdocofmffheaaDoor.Pv
