/- What LevelWitness, LevelLe, LevelSame, LevelZero and LevelAbove (the program's and the reference's) come to. No condition beyond the sizes. -/
import Derived.Test.YtjnfehajgogjiaaLvV
import Derived.Test.YtjnfehajgogjiaaQ4
import Derived.Test.YtjnfehajgogjiaaQ5
namespace Go.Proofs.Ytjnfehajgogjiaa.Pv
set_option linter.unusedSimpArgs false
set_option linter.unusedVariables false
open Go.RowKit Go.Proofs.Ytjnfehajgogjiaa.Q Go.Proofs.YtjnfehajgogjiaaW.PrintWords Go.Proofs.YtjnfehajgogjiaaW.PrintLast Go.Proofs.YtjnfehajgogjiaaW.PrintMore
/-- Does one level count more than another at three values? -/
def gtB (a b : Lv) (x y z : Int) : Bool := decide (a.val [x, y, z] > b.val [x, y, z])
def wit3 (a b : Lv) (x y t0 t1 t2 : Int) (r : List Int × Bool) : List Int × Bool :=
  if gtB a b x y t0 = true then ([x, y, t0], true) else if gtB a b x y t1 = true then ([x, y, t1], true) else if gtB a b x y t2 = true then ([x, y, t2], true) else r
def wit2 (a b : Lv) (x t0 t1 t2 : Int) (r : List Int × Bool) : List Int × Bool :=
  wit3 a b x t0 t0 t1 t2 (wit3 a b x t1 t0 t1 t2 (wit3 a b x t2 t0 t1 t2 r))
def wit1 (a b : Lv) (t0 t1 t2 : Int) : List Int × Bool := wit2 a b t0 t0 t1 t2 (wit2 a b t1 t0 t1 t2 (wit2 a b t2 t0 t1 t2 ([], false)))
def witM (a b : Lv) : Int := 2 + (a.ups : Int) + (b.ups : Int)
def wit (a b : Lv) : List Int × Bool := wit1 a b 0 1 (witM a b)
theorem vOk3 {x y z : Int} (hx : 0 ≤ x ∧ x ≤ 1000) (hy : 0 ≤ y ∧ y ≤ 1000) (hz : 0 ≤ z ∧ z ≤ 1000) : vOk [x, y, z] := by
  intro u hu
  simp only [List.mem_cons, List.not_mem_nil, or_false] at hu
  rcases hu with rfl | rfl | rfl
  · exact hx
  · exact hy
  · exact hz
section
variable (s t : ByteArray) (a b : Lv) (ha : a.ok) (hb : b.ok) (hla : a.tx.length ≤ 60) (hlb : b.tx.length ≤ 60) (ea : bytesOf s = a.tx) (eb : bytesOf t = b.tx) (M : Int) (hM : 0 ≤ M ∧ M ≤ 1000)
include ha hb hla hlb ea eb hM
omit hM in
theorem impl_wit_one (x y z : Int) (hx : 0 ≤ x ∧ x ≤ 1000) (hy : 0 ≤ y ∧ y ≤ 1000) (hz : 0 ≤ z ∧ z ≤ 1000) : Ev (fun k => impl_valueOf.f k s [x, y, z]) (a.val [x, y, z]) ∧ Ev (fun k => impl_valueOf.f k t [x, y, z]) (b.val [x, y, z]) :=
  ⟨ev_valueOf s _ (vOk3 hx hy hz) (by simp) a ha hla (by simpa using params_le a ha) ea, ev_valueOf t _ (vOk3 hx hy hz) (by simp) b hb hlb (by simpa using params_le b hb) eb⟩
theorem impl_wit3 (x y xi yi : Int) (hx : 0 ≤ x ∧ x ≤ 1000) (hy : 0 ≤ y ∧ y ≤ 1000) (r : List Int × Bool)
    (hk : Ev (fun k => impl_LevelWitness.l1 k s t [0, 1, M] x [0, 1, M] 3 xi [0, 1, M] 3 (wrap64 (yi + 1))) r) :
    Ev (fun k => impl_LevelWitness.l2 k s t [0, 1, M] x y [0, 1, M] 3 xi [0, 1, M] 3 yi [0, 1, M] 3 0) (wit3 a b x y 0 1 M r) := by
  have k0 := impl_wit_one s t a b ha hb hla hlb ea eb x y 0 hx hy (by omega)
  have k1 := impl_wit_one s t a b ha hb hla hlb ea eb x y 1 hx hy (by omega)
  have k2 := impl_wit_one s t a b ha hb hla hlb ea eb x y M hx hy hM
  unfold wit3 gtB
  refine Ev.succ ?_
  simp only [impl_LevelWitness.l2]
  refine Ev.pos (by omega) (Ev.pos (by omega) (Ev.pos (by simp) (Ev.some_bind ?_)))
  rw [show rd [0, 1, M] 0 = 0 from rfl]
  refine Ev.bnd k0.1 (Ev.bnd k0.2 ?_)
  by_cases g0 : a.val [x, y, 0] > b.val [x, y, 0]
  · exact Ev.pos g0 (Ev.val (by rw [if_pos (by simpa using g0)]))
  refine Ev.neg g0 ?_
  rw [if_neg (by simpa using g0), show wrap64 (0 + 1) = 1 from by unfold wrap64; omega]
  refine Ev.succ ?_
  simp only [impl_LevelWitness.l2]
  refine Ev.pos (by omega) (Ev.pos (by omega) (Ev.pos (by simp) (Ev.some_bind ?_)))
  rw [show rd [0, 1, M] 1 = 1 from rfl]
  refine Ev.bnd k1.1 (Ev.bnd k1.2 ?_)
  by_cases g1 : a.val [x, y, 1] > b.val [x, y, 1]
  · exact Ev.pos g1 (Ev.val (by rw [if_pos (by simpa using g1)]))
  refine Ev.neg g1 ?_
  rw [if_neg (by simpa using g1), show wrap64 (1 + 1) = 2 from by unfold wrap64; omega]
  refine Ev.succ ?_
  simp only [impl_LevelWitness.l2]
  refine Ev.pos (by omega) (Ev.pos (by omega) (Ev.pos (by simp) (Ev.some_bind ?_)))
  rw [show rd [0, 1, M] 2 = M from rfl]
  refine Ev.bnd k2.1 (Ev.bnd k2.2 ?_)
  by_cases g2 : a.val [x, y, M] > b.val [x, y, M]
  · exact Ev.pos g2 (Ev.val (by rw [if_pos (by simpa using g2)]))
  refine Ev.neg g2 ?_
  rw [if_neg (by simpa using g2), show wrap64 (2 + 1) = 3 from by unfold wrap64; omega]
  refine Ev.succ ?_
  simp only [impl_LevelWitness.l2]
  exact Ev.neg (by omega) hk
theorem impl_wit2 (x xi : Int) (hx : 0 ≤ x ∧ x ≤ 1000) (r : List Int × Bool) (hk : Ev (fun k => impl_LevelWitness.l0 k s t [0, 1, M] [0, 1, M] 3 (wrap64 (xi + 1))) r) :
    Ev (fun k => impl_LevelWitness.l1 k s t [0, 1, M] x [0, 1, M] 3 xi [0, 1, M] 3 0) (wit2 a b x 0 1 M r) := by
  unfold wit2
  refine Ev.succ ?_
  simp only [impl_LevelWitness.l1]
  refine Ev.pos (by omega) (Ev.pos (by omega) (Ev.pos (by simp) ?_))
  rw [show rd [0, 1, M] 0 = 0 from rfl]
  refine impl_wit3 s t a b ha hb hla hlb ea eb M hM x 0 xi 0 hx (by omega) _ ?_
  rw [show wrap64 (0 + 1) = 1 from by unfold wrap64; omega]
  refine Ev.succ ?_
  simp only [impl_LevelWitness.l1]
  refine Ev.pos (by omega) (Ev.pos (by omega) (Ev.pos (by simp) ?_))
  rw [show rd [0, 1, M] 1 = 1 from rfl]
  refine impl_wit3 s t a b ha hb hla hlb ea eb M hM x 1 xi 1 hx (by omega) _ ?_
  rw [show wrap64 (1 + 1) = 2 from by unfold wrap64; omega]
  refine Ev.succ ?_
  simp only [impl_LevelWitness.l1]
  refine Ev.pos (by omega) (Ev.pos (by omega) (Ev.pos (by simp) ?_))
  rw [show rd [0, 1, M] 2 = M from rfl]
  refine impl_wit3 s t a b ha hb hla hlb ea eb M hM x M xi 2 hx hM _ ?_
  rw [show wrap64 (2 + 1) = 3 from by unfold wrap64; omega]
  refine Ev.succ ?_
  simp only [impl_LevelWitness.l1]
  exact Ev.neg (by omega) hk
theorem impl_wit1 : Ev (fun k => impl_LevelWitness.l0 k s t [0, 1, M] [0, 1, M] 3 0) (wit1 a b 0 1 M) := by
  unfold wit1
  refine Ev.succ ?_
  simp only [impl_LevelWitness.l0]
  refine Ev.pos (by omega) (Ev.pos (by omega) (Ev.pos (by simp) ?_))
  rw [show rd [0, 1, M] 0 = 0 from rfl]
  refine impl_wit2 s t a b ha hb hla hlb ea eb M hM 0 0 (by omega) _ ?_
  rw [show wrap64 (0 + 1) = 1 from by unfold wrap64; omega]
  refine Ev.succ ?_
  simp only [impl_LevelWitness.l0]
  refine Ev.pos (by omega) (Ev.pos (by omega) (Ev.pos (by simp) ?_))
  rw [show rd [0, 1, M] 1 = 1 from rfl]
  refine impl_wit2 s t a b ha hb hla hlb ea eb M hM 1 1 (by omega) _ ?_
  rw [show wrap64 (1 + 1) = 2 from by unfold wrap64; omega]
  refine Ev.succ ?_
  simp only [impl_LevelWitness.l0]
  refine Ev.pos (by omega) (Ev.pos (by omega) (Ev.pos (by simp) ?_))
  rw [show rd [0, 1, M] 2 = M from rfl]
  refine impl_wit2 s t a b ha hb hla hlb ea eb M hM M 2 hM _ ?_
  rw [show wrap64 (2 + 1) = 3 from by unfold wrap64; omega]
  refine Ev.succ ?_
  simp only [impl_LevelWitness.l0]
  exact Ev.neg (by omega) (Ev.val rfl)
/-! the reference's -/
end
/-- LevelWitness at two texts. -/
def witR (s t : ByteArray) (r : List Int × Bool) : Prop :=
  (∃ a b : Lv, a.ok ∧ b.ok ∧ a.tx.length ≤ 60 ∧ b.tx.length ≤ 60 ∧ bytesOf s = a.tx ∧ bytesOf t = b.tx ∧ r = wit a b) ∨ ((lvOk (bytesOf s) = false ∨ lvOk (bytesOf t) = false) ∧ r = ([], false))
theorem witM_range (a b : Lv) (hla : a.tx.length ≤ 60) (hlb : b.tx.length ≤ 60) : 0 ≤ witM a b ∧ witM a b ≤ 1000 := by
  have h1 := ups_le a
  have h2 := ups_le b
  unfold witM
  omega
theorem witM_wrap (a b : Lv) (hla : a.tx.length ≤ 60) (hlb : b.tx.length ≤ 60) : wrap64 ((wrap64 (2 + (a.ups : Int))) + (b.ups : Int)) = witM a b := by
  have h1 := ups_le a
  have h2 := ups_le b
  unfold witM
  rw [w_id (x := 2 + (a.ups : Int)) (by omega) (by omega), w_id (by omega) (by omega)]
theorem ev_LevelWitness_tree (s t : ByteArray) (a b : Lv) (ha : a.ok) (hb : b.ok) (hla : a.tx.length ≤ 60) (hlb : b.tx.length ≤ 60) (ea : bytesOf s = a.tx) (eb : bytesOf t = b.tx) : Ev (fun k => impl_LevelWitness.f k s t) (wit a b) := by
  unfold impl_LevelWitness.f
  refine Ev.bnd (ev_LevelOk s) ?_
  rw [ea, lvOk_of ha hla]
  refine Ev.pos rfl (Ev.bnd (ev_LevelOk t) ?_)
  rw [eb, lvOk_of hb hlb]
  refine Ev.succ ?_
  simp only [impl_LevelWitness.j0]
  refine Ev.neg (by simp) (Ev.bnd (ev_LevelUps s) (Ev.bnd (ev_LevelUps t) (Ev.some_bind ?_)))
  rw [ea, eb, lvUps_tree a ha hla, lvUps_tree b hb hlb, witM_wrap a b hla hlb]
  exact impl_wit1 s t a b ha hb hla hlb ea eb (witM a b) (witM_range a b hla hlb)
theorem ev_LevelWitness_no (s t : ByteArray) (h : lvOk (bytesOf s) = false ∨ lvOk (bytesOf t) = false) : Ev (fun k => impl_LevelWitness.f k s t) ([], false) := by
  unfold impl_LevelWitness.f
  refine Ev.bnd (ev_LevelOk s) (Ev.ite (fun h1 => Ev.bnd (ev_LevelOk t) (Ev.succ ?_)) (fun _ => Ev.succ ?_))
  · simp only [impl_LevelWitness.j0]
    have h2 : lvOk (bytesOf t) = false := by
      rcases h with h | h
      · rw [h] at h1; cases h1
      · exact h
    rw [h2]
    exact Ev.pos (by simp) (Ev.val rfl)
  · simp only [impl_LevelWitness.j0]
    exact Ev.pos (by simp) (Ev.val rfl)
theorem wit3_len (a b : Lv) (x y t0 t1 t2 : Int) (r : List Int × Bool) (h : r.1.length ≤ 3) : (wit3 a b x y t0 t1 t2 r).1.length ≤ 3 := by
  unfold wit3
  split
  · simp
  split
  · simp
  split
  · simp
  · exact h
theorem wit2_len (a b : Lv) (x t0 t1 t2 : Int) (r : List Int × Bool) (h : r.1.length ≤ 3) : (wit2 a b x t0 t1 t2 r).1.length ≤ 3 := wit3_len _ _ _ _ _ _ _ _ (wit3_len _ _ _ _ _ _ _ _ (wit3_len _ _ _ _ _ _ _ _ h))
theorem witR_len {s t : ByteArray} {r : List Int × Bool} (h : witR s t r) : r.1.length ≤ 3 := by
  rcases h with ⟨a, b, _, _, _, _, _, _, rfl⟩ | ⟨_, rfl⟩
  · exact wit2_len _ _ _ _ _ _ _ (wit2_len _ _ _ _ _ _ _ (wit2_len _ _ _ _ _ _ _ (by simp)))
  · simp
end Go.Proofs.Ytjnfehajgogjiaa.Pv
