/- Constructors and declarations in the laws: their sizes, their copies, their comparison. No condition but sound lengths. -/
import Derived.Test.YtbenmnkkfimpcaaQ10
import Derived.Test.YtbenmnkkfimpcaaQ11
import Derived.Test.YtbenmnkkfimpcaaQ9
import Derived.Test.YtbenmnkkfimpcaaSl
import Derived.Test.YtbenmnkkfimpcaaOp
namespace Go.Proofs.Ytbenmnkkfimpcaa.Pv
set_option linter.unusedSimpArgs false
set_option linter.unusedVariables false
open Go.RowKit Go.Proofs.Ytbenmnkkfimpcaa.Q Go.Proofs.YtbenmnkkfimpcaaW.PrintWords Go.Proofs.YtbenmnkkfimpcaaW.PrintLast Go.Proofs.YtbenmnkkfimpcaaW.PrintMore
/-- A constructor of the laws as one of the program's. -/
def ctTo (x : S107) : S109 := ⟨x.f0, x.f1⟩
theorem szCtor_eq (n s : ByteArray) (gn : n.size ≤ 9223372036854775807) (gs : s.size ≤ 9223372036854775807) (a : Int) (ha : 0 ≤ a) (hb : a ≤ 1048576) : laws_szCtor.f n s a = some (spend a (n.size + s.size)) := by
  unfold laws_szCtor.f
  rw [w_id (x := a - (n.size : Int)) (by omega) (by omega)]
  by_cases h : a - (n.size : Int) < 0
  · rw [if_pos h, spend_no (by omega)]
  · rw [if_neg h, w_id (by omega) (by omega)]
    by_cases h2 : a - (n.size : Int) - (s.size : Int) < 0
    · rw [if_pos h2, spend_no (by omega)]
    · rw [if_neg h2, spend_yes (by omega)]
      congr 1
      omega
theorem ev_szCtorS (xs : List S107) (g : gL g107 xs) (a : Int) (ha : 0 ≤ a) (hb : a ≤ 1048576) : Ev (fun k => laws_szCtorS.f k xs a) (spend a (xs.length + (xs.map fun x => x.f0.size + x.f1.size).sum)) := by
  have hl : xs.length ≤ 9223372036854775807 := g.2
  refine ev_spendS xs (fun x => x.f0.size + x.f1.size) (fun k a i => laws_szCtorS.l0 k xs a i) hl (fun a => ?_) (fun i hi a r hm ha hb hn hy => ?_) a ha hb
  · refine Ev.succ ?_
    simp only [laws_szCtorS.l0]
    exact Ev.neg (by omega) (Ev.val rfl)
  · have hs : xs[i].f0.size ≤ 9223372036854775807 := (g.1 _ (List.getElem_mem hi)).1
    have hs' : xs[i].f1.size ≤ 9223372036854775807 := (g.1 _ (List.getElem_mem hi)).2
    refine Ev.succ ?_
    simp only [laws_szCtorS.l0]
    rw [show rd_T107 xs (i : Int) = xs[i] from getD_at _ _ _ hi, szCtor_eq _ _ hs hs' a ha hb, wS i (by omega)]
    refine Ev.pos (by omega) (Ev.pos (by omega) (Ev.some_bind ?_))
    unfold spend
    by_cases h : ((xs[i].f0.size + xs[i].f1.size : Nat) : Int) ≤ a
    · rw [if_pos h]
      exact Ev.neg (by omega) (hy h)
    · rw [if_neg h]
      exact Ev.pos (by omega) (Ev.val (hn (by omega)).symm)
theorem ev_toCtorS (xs : List S107) (hl : xs.length ≤ 1048576) : Ev (fun k => laws_toCtorS.f k xs) (xs.map ctTo) := by
  unfold laws_toCtorS.f
  refine Ev.pos (by omega) (Ev.pos (by omega) ?_)
  rw [Int.toNat_natCast]
  refine ev_copyL xs ctTo _ (fun k ys i => laws_toCtorS.l0 k xs ys i) (fun ys => ?_) (fun i hi ys r hy h => ?_)
  · refine Ev.succ ?_
    simp only [laws_toCtorS.l0]
    exact Ev.neg (by omega) (Ev.val rfl)
  · refine Ev.succ ?_
    simp only [laws_toCtorS.l0, laws_toCtor.f, Option.bind_some]
    rw [show rd_T107 xs (i : Int) = xs[i] from getD_at _ _ _ hi, wS i (by omega), Int.toNat_natCast]
    exact Ev.pos (by omega) (Ev.pos (by omega) (Ev.pos (by omega) h))
theorem eqCtor_self (n s : ByteArray) : laws_eqCtor.f n s n s = some true := by
  unfold laws_eqCtor.f
  rw [if_pos rfl, if_pos rfl]
theorem ev_eqCtorS (xs : List S109) (hl : xs.length ≤ 1048576) : Ev (fun k => laws_eqCtorS.f k xs xs) true := by
  unfold laws_eqCtorS.f
  refine Ev.pos rfl (ev_all xs.length true (fun k i => laws_eqCtorS.l0 k xs xs i) ?_ (fun i hi h => ?_))
  · refine Ev.succ ?_
    simp only [laws_eqCtorS.l0]
    exact Ev.neg (by omega) (Ev.val rfl)
  · refine Ev.succ ?_
    simp only [laws_eqCtorS.l0, eqCtor_self, Option.bind_some]
    rw [wS i (by omega)]
    exact Ev.pos (by omega) (Ev.pos (by omega) (Ev.pos (by omega) (Ev.pos trivial h)))
/-- How much a declaration spends. -/
def dcSize (x : S42) : Nat := x.f1.size + x.f4.size + x.f5.size + (x.f6.length + (x.f6.map fun x => x.f0.size + x.f1.size).sum)
theorem ev_szDecl (x : S42) (g : g42 x) (a : Int) (ha : 0 ≤ a) (hb : a ≤ 1048576) : Ev (fun k => laws_szDecl.f k x.f0 x.f1 x.f2 x.f3 x.f4 x.f5 x.f6 a) (spend a (dcSize x)) := by
  obtain ⟨_, g1, _, _, g4, g5, g6⟩ := g
  unfold gS maxLen at g1 g4 g5
  unfold laws_szDecl.f dcSize
  rw [w_id (x := a - (x.f1.size : Int)) (by omega) (by omega)]
  refine Ev.ite (fun h => Ev.val (spend_no (by omega)).symm) (fun h => ?_)
  rw [w_id (x := a - (x.f1.size : Int) - (x.f4.size : Int)) (by omega) (by omega)]
  refine Ev.ite (fun h => Ev.val (spend_no (by omega)).symm) (fun h => ?_)
  rw [w_id (x := a - (x.f1.size : Int) - (x.f4.size : Int) - (x.f5.size : Int)) (by omega) (by omega)]
  refine Ev.ite (fun h => Ev.val (spend_no (by omega)).symm) (fun h => ?_)
  refine Ev.bnd (ev_szCtorS x.f6 g6 _ (by omega) (by omega)) ?_
  generalize x.f6.length + (x.f6.map fun x => x.f0.size + x.f1.size).sum = m
  refine Ev.ite (fun h => Ev.val ?_) (fun h => Ev.val ?_)
  · have := spend_lt h
    rw [spend_no (by omega)]
  · have := spend_ge h
    rw [this.2, spend_yes (by omega)]
    omega
theorem ev_toDecl (x : S42) (hl : x.f6.length ≤ 1048576) : Ev (fun k => laws_toDecl.f k x.f0 x.f1 x.f2 x.f3 x.f4 x.f5 x.f6) (x.f0, x.f1, x.f2, x.f3, x.f4, x.f5, x.f6.map ctTo) :=
  Ev.bnd (ev_toCtorS x.f6 hl) (Ev.val rfl)
theorem ev_eqDecl (n : Int) (s : ByteArray) (p f : Int) (t v : ByteArray) (xs : List S109) (hl : xs.length ≤ 1048576) : Ev (fun k => laws_eqDecl.f k n s p f t v xs n s p f t v xs) true := by
  unfold laws_eqDecl.f
  exact Ev.pos rfl (Ev.pos rfl (Ev.pos rfl (Ev.pos rfl (Ev.pos rfl (Ev.pos rfl (Ev.bnd (ev_eqCtorS xs hl) (Ev.pos rfl (Ev.val rfl))))))))
end Go.Proofs.Ytbenmnkkfimpcaa.Pv
