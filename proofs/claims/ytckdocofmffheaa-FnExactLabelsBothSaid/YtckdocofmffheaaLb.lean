/- Labels and slices of labels in the laws: their sizes, their copies, their comparison. No condition but sound lengths. -/
import Derived.Test.YtckdocofmffheaaQ2
import Derived.Test.YtckdocofmffheaaQ3
import Derived.Test.YtckdocofmffheaaSzL
import Derived.Test.YtckdocofmffheaaOp
namespace Go.Proofs.Ytckdocofmffheaa.Pv
set_option linter.unusedSimpArgs false
set_option linter.unusedVariables false
open Go.RowKit Go.Proofs.Ytckdocofmffheaa.Q Go.Proofs.YtckdocofmffheaaW.PrintWords Go.Proofs.YtckdocofmffheaaW.PrintLast Go.Proofs.YtckdocofmffheaaW.PrintMore
/-- A label of the laws as one of the program's. -/
def lbTo (x : S32) : S35 := ⟨x.f0, x.f1⟩
theorem ev_szLabelS (xs : List S32) (g : gL g32 xs) (a : Int) (ha : 0 ≤ a) (hb : a ≤ 1048576) : Ev (fun k => laws_szLabelS.f k xs a) (spend a (xs.length + (xs.map fun x => x.f1.size).sum)) := by
  have hl : xs.length ≤ 9223372036854775807 := g.2
  refine ev_spendS xs (fun x => x.f1.size) (fun k a i => laws_szLabelS.l0 k xs a i) hl (fun a => ?_) (fun i hi a r hm ha hb hn hy => ?_) a ha hb
  · refine Ev.succ ?_
    simp only [laws_szLabelS.l0]
    exact Ev.neg (by omega) (Ev.val rfl)
  · have hs : xs[i].f1.size ≤ 9223372036854775807 := (g.1 _ (List.getElem_mem hi)).2
    refine Ev.succ ?_
    simp only [laws_szLabelS.l0]
    rw [show rd_T32 xs (i : Int) = xs[i] from getD_at _ _ _ hi, szLabel_eq _ _ hs a ha hb, wS i (by omega)]
    refine Ev.pos (by omega) (Ev.pos (by omega) (Ev.some_bind ?_))
    unfold spend
    by_cases h : (xs[i].f1.size : Int) ≤ a
    · rw [if_pos h]
      exact Ev.neg (by omega) (hy h)
    · rw [if_neg h]
      exact Ev.pos (by omega) (Ev.val (hn (by omega)).symm)
theorem ev_toLabelS (xs : List S32) (hl : xs.length ≤ 1048576) : Ev (fun k => laws_toLabelS.f k xs) (xs.map lbTo) := by
  unfold laws_toLabelS.f
  refine Ev.pos (by omega) (Ev.pos (by omega) ?_)
  rw [Int.toNat_natCast]
  refine ev_copyL xs lbTo _ (fun k ys i => laws_toLabelS.l0 k xs ys i) (fun ys => ?_) (fun i hi ys r hy h => ?_)
  · refine Ev.succ ?_
    simp only [laws_toLabelS.l0]
    exact Ev.neg (by omega) (Ev.val rfl)
  · refine Ev.succ ?_
    simp only [laws_toLabelS.l0, laws_toLabel.f, Option.bind_some]
    rw [show rd_T32 xs (i : Int) = xs[i] from getD_at _ _ _ hi, wS i (by omega), Int.toNat_natCast]
    exact Ev.pos (by omega) (Ev.pos (by omega) (Ev.pos (by omega) h))
theorem eqLabel_self (n : Int) (s : ByteArray) : laws_eqLabel.f n s n s = some true := by
  unfold laws_eqLabel.f
  rw [if_pos rfl, if_pos rfl]
theorem ev_eqLabelS (xs : List S35) (hl : xs.length ≤ 1048576) : Ev (fun k => laws_eqLabelS.f k xs xs) true := by
  unfold laws_eqLabelS.f
  refine Ev.pos rfl (ev_all xs.length true (fun k i => laws_eqLabelS.l0 k xs xs i) ?_ (fun i hi h => ?_))
  · refine Ev.succ ?_
    simp only [laws_eqLabelS.l0]
    exact Ev.neg (by omega) (Ev.val rfl)
  · refine Ev.succ ?_
    simp only [laws_eqLabelS.l0, eqLabel_self, Option.bind_some]
    rw [wS i (by omega)]
    exact Ev.pos (by omega) (Ev.pos (by omega) (Ev.pos (by omega) (Ev.pos trivial h)))
theorem labels_fit {a : Int} {xs : List S32} (hb : a ≤ 1048576) (h : ¬ spend a (xs.length + (xs.map fun x => x.f1.size).sum) < 0) : xs.length ≤ 1048576 ∧ ∀ x ∈ xs, x.f1.size ≤ 1048576 := by
  have h1 := (spend_ge h).1
  refine ⟨by omega, fun x hx => ?_⟩
  have := mem_sum (fun x : S32 => x.f1.size) xs x hx
  omega
end Go.Proofs.Ytckdocofmffheaa.Pv
