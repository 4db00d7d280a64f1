/- What LevelWitness, LevelLe, LevelSame, LevelZero and LevelAbove (the program's and the reference's) come to. No condition beyond the sizes. -/
import Derived.Test.YtjnfehajgogjiaaLvV
import Derived.Test.YtjnfehajgogjiaaQ0
namespace Go.Proofs.Ytjnfehajgogjiaa.Pv
set_option linter.unusedSimpArgs false
set_option linter.unusedVariables false
open Go.RowKit Go.Proofs.Ytjnfehajgogjiaa.Q Go.Proofs.YtjnfehajgogjiaaW.PrintWords Go.Proofs.YtjnfehajgogjiaaW.PrintLast Go.Proofs.YtjnfehajgogjiaaW.PrintMore
/-- Does one level count more than another at three values? -/
def gtB (a b : Lv) (x y z : Int) : Bool := decide (a.val [x, y, z] > b.val [x, y, z])
def wit3 (a b : Lv) (x y t0 t1 t2 : Int) (r : List Int × Bool) : List Int × Bool :=
  if gtB a b x y t0 = true then ([x, y, t0], true) else if gtB a b x y t1 = true then ([x, y, t1], true) else if gtB a b x y t2 = true then ([x, y, t2], true) else r
def wit2 (a b : Lv) (x t0 t1 t2 : Int) (r : List Int × Bool) : List Int × Bool :=
  wit3 a b x t0 t0 t1 t2 (wit3 a b x t1 t0 t1 t2 (wit3 a b x t2 t0 t1 t2 r))
def wit1 (a b : Lv) (t0 t1 t2 : Int) : List Int × Bool := wit2 a b t0 t0 t1 t2 (wit2 a b t1 t0 t1 t2 (wit2 a b t2 t0 t1 t2 ([], false)))
def witM (a b : Lv) : Int := 2 + (a.ups : Int) + (b.ups : Int)
def wit (a b : Lv) : List Int × Bool := wit1 a b 0 1 (witM a b)
theorem vOk3 {x y z : Int} (hx : 0 ≤ x ∧ x ≤ 1000) (hy : 0 ≤ y ∧ y ≤ 1000) (hz : 0 ≤ z ∧ z ≤ 1000) : vOk [x, y, z] := by
  intro u hu
  simp only [List.mem_cons, List.not_mem_nil, or_false] at hu
  rcases hu with rfl | rfl | rfl
  · exact hx
  · exact hy
  · exact hz
section
variable (s t : ByteArray) (a b : Lv) (ha : a.ok) (hb : b.ok) (hla : a.tx.length ≤ 60) (hlb : b.tx.length ≤ 60) (ea : bytesOf s = a.tx) (eb : bytesOf t = b.tx) (M : Int) (hM : 0 ≤ M ∧ M ≤ 1000)
include ha hb hla hlb ea eb hM
omit hM in
theorem impl_wit_one (x y z : Int) (hx : 0 ≤ x ∧ x ≤ 1000) (hy : 0 ≤ y ∧ y ≤ 1000) (hz : 0 ≤ z ∧ z ≤ 1000) : Ev (fun k => impl_valueOf.f k s [x, y, z]) (a.val [x, y, z]) ∧ Ev (fun k => impl_valueOf.f k t [x, y, z]) (b.val [x, y, z]) :=
  ⟨ev_valueOf s _ (vOk3 hx hy hz) (by simp) a ha hla (by simpa using params_le a ha) ea, ev_valueOf t _ (vOk3 hx hy hz) (by simp) b hb hlb (by simpa using params_le b hb) eb⟩
/-! the reference's -/
end
/-- LevelWitness at two texts. -/
def witR (s t : ByteArray) (r : List Int × Bool) : Prop :=
  (∃ a b : Lv, a.ok ∧ b.ok ∧ a.tx.length ≤ 60 ∧ b.tx.length ≤ 60 ∧ bytesOf s = a.tx ∧ bytesOf t = b.tx ∧ r = wit a b) ∨ ((lvOk (bytesOf s) = false ∨ lvOk (bytesOf t) = false) ∧ r = ([], false))
theorem witM_range (a b : Lv) (hla : a.tx.length ≤ 60) (hlb : b.tx.length ≤ 60) : 0 ≤ witM a b ∧ witM a b ≤ 1000 := by
  have h1 := ups_le a
  have h2 := ups_le b
  unfold witM
  omega
theorem witM_wrap (a b : Lv) (hla : a.tx.length ≤ 60) (hlb : b.tx.length ≤ 60) : wrap64 ((wrap64 (2 + (a.ups : Int))) + (b.ups : Int)) = witM a b := by
  have h1 := ups_le a
  have h2 := ups_le b
  unfold witM
  rw [w_id (x := 2 + (a.ups : Int)) (by omega) (by omega), w_id (by omega) (by omega)]
theorem wit3_len (a b : Lv) (x y t0 t1 t2 : Int) (r : List Int × Bool) (h : r.1.length ≤ 3) : (wit3 a b x y t0 t1 t2 r).1.length ≤ 3 := by
  unfold wit3
  split
  · simp
  split
  · simp
  split
  · simp
  · exact h
theorem wit2_len (a b : Lv) (x t0 t1 t2 : Int) (r : List Int × Bool) (h : r.1.length ≤ 3) : (wit2 a b x t0 t1 t2 r).1.length ≤ 3 := wit3_len _ _ _ _ _ _ _ _ (wit3_len _ _ _ _ _ _ _ _ (wit3_len _ _ _ _ _ _ _ _ h))
theorem witR_len {s t : ByteArray} {r : List Int × Bool} (h : witR s t r) : r.1.length ≤ 3 := by
  rcases h with ⟨a, b, _, _, _, _, _, _, rfl⟩ | ⟨_, rfl⟩
  · exact wit2_len _ _ _ _ _ _ _ (wit2_len _ _ _ _ _ _ _ (wit2_len _ _ _ _ _ _ _ (by simp)))
  · simp
end Go.Proofs.Ytjnfehajgogjiaa.Pv
