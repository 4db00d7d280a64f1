/- What LabelsOk comes to, of the program and of the reference: labels, each behind the one ahead of it. No condition beyond the sizes. -/
import Derived.Test.YtihggojbeohlkaaDoorLbE
import Derived.Test.YtihggojbeohlkaaDoorQ25
import Derived.Test.YtihggojbeohlkaaDoorQ26
import Derived.Test.YtihggojbeohlkaaDoorQ27
import Derived.Test.YtihggojbeohlkaaDoorQ28
import Derived.Test.YtihggojbeohlkaaDoorQ29
namespace Go.Proofs.YtihggojbeohlkaaDoor.Pv
set_option linter.unusedSimpArgs false
set_option linter.unusedVariables false
open Go.RowKit Go.Proofs.YtihggojbeohlkaaDoor.Q Go.Proofs.YtihggojbeohlkaaDoorW.PrintWords Go.Proofs.YtihggojbeohlkaaDoorW.PrintLast Go.Proofs.YtihggojbeohlkaaDoorW.PrintMore
def lbLess (n : Int) (s : ByteArray) (m : Int) (t : ByteArray) : Bool := decide (n < m) || (decide (n = m) && Op.bytesLess s.toList t.toList)
def cmpI (a b : Int) : Int := if a < b then -1 else if a > b then 1 else 0
def cmpS (a b : ByteArray) : Int := if Op.bytesLess a.toList b.toList = true then -1 else if Op.bytesLess b.toList a.toList = true then 1 else 0
theorem compareI_eq (a b : Int) : cmp_Compare_int.f a b = some (cmpI a b) := by
  unfold cmp_Compare_int.f cmp_isNaN_int.f cmpI
  have e : ∀ x : Int, (x != x) = false := fun x => by simp
  rw [e, e]
  simp only [Option.bind_some, Bool.false_eq_true, if_false]
  by_cases h1 : a < b
  · rw [if_pos h1, if_pos h1]
  · rw [if_neg h1, if_neg h1]
    by_cases h2 : a > b
    · rw [if_pos h2, if_pos h2]
    · rw [if_neg h2, if_neg h2]
theorem compareS_eq (a b : ByteArray) : cmp_Compare_string.f a b = some (cmpS a b) := by
  unfold cmp_Compare_string.f cmp_isNaN_string.f cmpS
  have e : ∀ x : List UInt8, (x != x) = false := fun x => by simp
  rw [e, e]
  simp only [Option.bind_some, Bool.false_eq_true, if_false]
  by_cases h1 : Op.bytesLess a.toList b.toList = true
  · rw [if_pos h1, if_pos h1]
  · rw [if_neg h1, if_neg h1]
    by_cases h2 : Op.bytesLess b.toList a.toList = true
    · rw [if_pos h2, if_pos h2]
    · rw [if_neg h2, if_neg h2]
theorem ev_Or2 (c d : Int) : Ev (fun k => cmp_Or_int.f k [c, d]) (if c = 0 then d else c) := by
  have r0 : rd [c, d] 0 = c := rfl
  have r1 : rd [c, d] 1 = d := rfl
  have w0 : wrap64 (0 + 1) = 1 := by decide +kernel
  have w1 : wrap64 (1 + 1) = 2 := by decide +kernel
  unfold cmp_Or_int.f
  refine Ev.succ ?_
  simp only [cmp_Or_int.l0]
  rw [r0, w0]
  refine Ev.pos (by simp) (Ev.pos (by omega) (Ev.pos (by simp) (Ev.ite (fun h => ?_) (fun h => Ev.val ?_))))
  · rw [if_pos h]
    refine Ev.succ ?_
    simp only [cmp_Or_int.l0]
    rw [r1, w1]
    refine Ev.pos (by simp) (Ev.pos (by omega) (Ev.pos (by simp) (Ev.ite (fun h => ?_) (fun h => Ev.val rfl))))
    refine Ev.succ ?_
    simp only [cmp_Or_int.l0]
    exact Ev.neg (by simp) (Ev.val h.symm)
  · rw [if_neg h]
theorem ev_compare (n : Int) (s : ByteArray) (m : Int) (t : ByteArray) : ∃ r : Int, Ev (fun k => impl_compareLabels.f k n s m t) r ∧ (r ≥ 0 ↔ lbLess n s m t = false) := by
  refine ⟨if cmpI n m = 0 then cmpS s t else cmpI n m, ?_, ?_⟩
  · unfold impl_compareLabels.f
    rw [compareI_eq, compareS_eq]
    exact Ev.some_bind (Ev.some_bind (Ev.bnd (ev_Or2 _ _) (Ev.val rfl)))
  · unfold lbLess cmpI cmpS
    by_cases h1 : n < m
    · simp [h1]
    · by_cases h2 : n > m
      · have h3 : ¬ n = m := by omega
        simp [h1, h2, h3]
      · have h3 : n = m := by omega
        subst h3
        cases h4 : Op.bytesLess s.toList t.toList
        · cases h5 : Op.bytesLess t.toList s.toList <;> simp
        · simp
theorem less_eq (n : Int) (s : ByteArray) (m : Int) (t : ByteArray) : spec_l03Less.f n s m t = some (lbLess n s m t) := by
  unfold spec_l03Less.f lbLess
  by_cases h1 : n < m
  · rw [if_pos h1, decide_eq_true h1, Bool.true_or]
  · rw [if_neg h1, decide_eq_false h1, Bool.false_or]
    by_cases h2 : n = m
    · rw [if_pos h2, decide_eq_true h2, Bool.true_and]
    · rw [if_neg h2, decide_eq_false h2, Bool.false_and]
abbrev lbGet (xs : List S41) (i : Nat) : S41 := xs.getD i z41
def lbAt (xs : List S41) (i : Nat) : Bool := lbOk (lbGet xs i).f0 (lbGet xs i).f1 && (decide (i = 0) || lbLess (lbGet xs (i - 1)).f0 (lbGet xs (i - 1)).f1 (lbGet xs i).f0 (lbGet xs i).f1)
def lbsOk (xs : List S41) : Bool := (List.range xs.length).all (lbAt xs)
theorem rdT_nat (xs : List S41) (i : Nat) : rd_T41 xs (i : Int) = lbGet xs i := rfl
theorem ev_spec_LabelsOk (xs : List S41) (hl : xs.length ≤ 1048576) : Ev (fun k => spec_LabelsOk.f k xs) (lbsOk xs) := by
  unfold spec_LabelsOk.f lbsOk
  refine ev_every xs.length (lbAt xs) (fun k i => spec_LabelsOk.l0 k xs i) ?_ (fun i r hi hn hy => ?_)
  · refine Ev.succ ?_
    simp only [spec_LabelsOk.l0]
    exact Ev.neg (by omega) (Ev.val rfl)
  · refine Ev.succ ?_
    simp only [spec_LabelsOk.l0]
    rw [rdT_nat, wS i (by omega)]
    refine Ev.pos (by omega) (Ev.pos (by omega) (Ev.bnd (ev_spec_LabelOk _ _) ?_))
    unfold lbAt at hn hy
    refine Ev.ite (fun ho => ?_) (fun ho => Ev.val ?_)
    · rw [ho, Bool.true_and] at hn hy
      cases i with
      | zero => exact Ev.neg (by omega) (hy rfl)
      | succ j =>
        rw [wP j (by omega), rdT_nat, less_eq]
        refine Ev.pos (by omega) (Ev.pos (by omega) (Ev.pos (by omega) (Ev.some_bind (Ev.ite (fun hb => hy ?_) (fun hb => Ev.val (hn ?_).symm)))))
        · rw [decide_eq_false (by omega), Bool.false_or]
          exact hb
        · rw [decide_eq_false (by omega), Bool.false_or]
          exact Bool.eq_false_iff.2 hb
    · rw [Bool.eq_false_iff.2 ho, Bool.false_and] at hn
      exact (hn rfl).symm
theorem ev_LabelsOk (xs : List S41) (hl : xs.length ≤ 1048576) : Ev (fun k => impl_LabelsOk.f k xs) (lbsOk xs) := by
  unfold impl_LabelsOk.f lbsOk
  refine ev_every xs.length (lbAt xs) (fun k i => impl_LabelsOk.l0 k xs xs (xs.length : Int) i) ?_ (fun i r hi hn hy => ?_)
  · refine Ev.succ ?_
    simp only [impl_LabelsOk.l0]
    exact Ev.neg (by omega) (Ev.val rfl)
  · refine Ev.succ ?_
    simp only [impl_LabelsOk.l0]
    rw [rdT_nat, wS i (by omega)]
    refine Ev.pos (by omega) (Ev.pos (by omega) (Ev.pos (by omega) (Ev.bnd (ev_LabelOk _ _) ?_)))
    unfold lbAt at hn hy
    refine Ev.ite (fun ho => ?_) (fun ho => Ev.val ?_)
    · rw [ho, Bool.true_and] at hn hy
      cases i with
      | zero => exact Ev.neg (by omega) (hy rfl)
      | succ j =>
        rw [wP j (by omega), rdT_nat]
        obtain ⟨q, hq, hqi⟩ := ev_compare (lbGet xs j).f0 (lbGet xs j).f1 (lbGet xs (j + 1)).f0 (lbGet xs (j + 1)).f1
        refine Ev.pos (by omega) (Ev.pos (by omega) (Ev.pos (by omega) (Ev.bnd hq (Ev.ite (fun hb => Ev.val (hn ?_).symm) (fun hb => hy ?_)))))
        · rw [decide_eq_false (by omega), Bool.false_or]
          exact hqi.1 hb
        · rw [decide_eq_false (by omega), Bool.false_or, ← Bool.not_eq_false]
          exact fun e => hb (hqi.2 e)
    · rw [Bool.eq_false_iff.2 ho, Bool.false_and] at hn
      exact (hn rfl).symm
end Go.Proofs.YtihggojbeohlkaaDoor.Pv
