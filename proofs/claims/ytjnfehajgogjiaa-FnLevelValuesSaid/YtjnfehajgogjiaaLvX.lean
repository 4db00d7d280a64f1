/- What LevelLe says of two levels: whether the first counts at most the second at all values; the witness is one. No condition beyond the sizes. -/
import Derived.Test.YtjnfehajgogjiaaLvW
import Derived.Test.YtjnfehajgogjiaaLvO
import Derived.Test.YtjnfehajgogjiaaBy
import Derived.Test.YtjnfehajgogjiaaQ0
namespace Go.Proofs.Ytjnfehajgogjiaa.Pv
set_option linter.unusedSimpArgs false
set_option linter.unusedVariables false
open Go.RowKit Go.Proofs.Ytjnfehajgogjiaa.Q Go.Proofs.YtjnfehajgogjiaaW.PrintWords Go.Proofs.YtjnfehajgogjiaaW.PrintLast Go.Proofs.YtjnfehajgogjiaaW.PrintMore
section
variable (a b : Lv) (t0 t1 t2 : Int)
def In3 (x : Int) : Prop := x = t0 ∨ x = t1 ∨ x = t2
def WGood (r : List Int × Bool) : Prop := r.2 = true → ∃ x y z, In3 t0 t1 t2 x ∧ In3 t0 t1 t2 y ∧ In3 t0 t1 t2 z ∧ r.1 = [x, y, z] ∧ a.val [x, y, z] > b.val [x, y, z]
theorem wit3_good {x y : Int} (hx : In3 t0 t1 t2 x) (hy : In3 t0 t1 t2 y) {r : List Int × Bool} (hr : WGood a b t0 t1 t2 r) : WGood a b t0 t1 t2 (wit3 a b x y t0 t1 t2 r) := by
  unfold wit3
  split
  · rename_i h
    exact fun _ => ⟨x, y, t0, hx, hy, .inl rfl, rfl, of_decide_eq_true h⟩
  · split
    · rename_i h
      exact fun _ => ⟨x, y, t1, hx, hy, .inr (.inl rfl), rfl, of_decide_eq_true h⟩
    · split
      · rename_i h
        exact fun _ => ⟨x, y, t2, hx, hy, .inr (.inr rfl), rfl, of_decide_eq_true h⟩
      · exact hr
theorem wit2_good {x : Int} (hx : In3 t0 t1 t2 x) {r : List Int × Bool} (hr : WGood a b t0 t1 t2 r) : WGood a b t0 t1 t2 (wit2 a b x t0 t1 t2 r) :=
  wit3_good a b t0 t1 t2 hx (.inl rfl) (wit3_good a b t0 t1 t2 hx (.inr (.inl rfl)) (wit3_good a b t0 t1 t2 hx (.inr (.inr rfl)) hr))
theorem wit1_good : WGood a b t0 t1 t2 (wit1 a b t0 t1 t2) :=
  wit2_good a b t0 t1 t2 (.inl rfl) (wit2_good a b t0 t1 t2 (.inr (.inl rfl)) (wit2_good a b t0 t1 t2 (.inr (.inr rfl)) (fun h => by cases h)))
theorem wit3_keep (x y : Int) {r : List Int × Bool} (hr : r.2 = true) : (wit3 a b x y t0 t1 t2 r).2 = true := by
  unfold wit3
  repeat (first | split | rfl | exact hr)
theorem wit3_hit {x y z : Int} (hz : In3 t0 t1 t2 z) (h : a.val [x, y, z] > b.val [x, y, z]) (r : List Int × Bool) : (wit3 a b x y t0 t1 t2 r).2 = true := by
  have hg : gtB a b x y z = true := decide_eq_true h
  unfold wit3
  rcases hz with rfl | rfl | rfl
  · rw [if_pos hg]
  · split
    · rfl
    · first | rfl | rw [if_pos hg]
  · split
    · rfl
    · split
      · rfl
      · first | rfl | rw [if_pos hg]
theorem wit2_keep (x : Int) {r : List Int × Bool} (hr : r.2 = true) : (wit2 a b x t0 t1 t2 r).2 = true := wit3_keep _ _ _ _ _ _ _ (wit3_keep _ _ _ _ _ _ _ (wit3_keep _ _ _ _ _ _ _ hr))
theorem wit2_hit {x y z : Int} (hy : In3 t0 t1 t2 y) (hz : In3 t0 t1 t2 z) (h : a.val [x, y, z] > b.val [x, y, z]) (r : List Int × Bool) : (wit2 a b x t0 t1 t2 r).2 = true := by
  unfold wit2
  rcases hy with rfl | rfl | rfl
  · exact wit3_hit _ _ _ _ _ hz h _
  · exact wit3_keep _ _ _ _ _ _ _ (wit3_hit _ _ _ _ _ hz h _)
  · exact wit3_keep _ _ _ _ _ _ _ (wit3_keep _ _ _ _ _ _ _ (wit3_hit _ _ _ _ _ hz h _))
theorem wit1_hit {x y z : Int} (hx : In3 t0 t1 t2 x) (hy : In3 t0 t1 t2 y) (hz : In3 t0 t1 t2 z) (h : a.val [x, y, z] > b.val [x, y, z]) : (wit1 a b t0 t1 t2).2 = true := by
  unfold wit1
  rcases hx with rfl | rfl | rfl
  · exact wit2_hit _ _ _ _ _ hy hz h _
  · exact wit2_keep _ _ _ _ _ _ (wit2_hit _ _ _ _ _ hy hz h _)
  · exact wit2_keep _ _ _ _ _ _ (wit2_keep _ _ _ _ _ _ (wit2_hit _ _ _ _ _ hy hz h _))
end
/-- The first level counts at most the second at all values. -/
def LvLe (a b : Lv) : Prop := ∀ x y z : Int, 0 ≤ x → 0 ≤ y → 0 ≤ z → a.val [x, y, z] ≤ b.val [x, y, z]
theorem wit_no {a b : Lv} (h : LvLe a b) : (wit a b).2 = false := by
  rw [Bool.eq_false_iff]
  intro hw
  obtain ⟨x, y, z, hx, hy, hz, _, hgt⟩ := wit1_good a b 0 1 (witM a b) hw
  have hM : 0 ≤ witM a b := by unfold witM; omega
  have pos : ∀ u, In3 0 1 (witM a b) u → 0 ≤ u := by
    rintro u (rfl | rfl | rfl) <;> omega
  have := h x y z (pos x hx) (pos y hy) (pos z hz)
  omega
theorem wit_le {a b : Lv} (h : (wit a b).2 = false) : LvLe a b := by
  intro x y z hx hy hz
  refine Int.not_lt.1 fun hgt => ?_
  obtain ⟨x', y', z', h1, h2, h3, h4⟩ := witness_whole a b x y z hx hy hz (witM a b) (by unfold witM; omega) hgt
  have := wit1_hit a b 0 1 (witM a b) h1 h2 h3 h4
  unfold wit at h
  rw [this] at h
  cases h
/-- Texts of levels. -/
structure Tx (s : ByteArray) (a : Lv) : Prop where
  ok : a.ok
  small : a.tx.length ≤ 60
  tx : bytesOf s = a.tx
theorem tx_m {s t : ByteArray} {a b : Lv} (hs : Tx s a) (ht : Tx t b) (hl : a.tx.length + b.tx.length ≤ 59) : Tx (((⟨#[109]⟩ : ByteArray) ++ s) ++ t) (.m a b) := by
  refine ⟨⟨hs.ok, ht.ok⟩, by simp only [Lv.tx, List.length_cons, List.length_append]; omega, ?_⟩
  rw [bl_append, bl_append, hs.tx, ht.tx]
  rfl
theorem tx_i {s t : ByteArray} {a b : Lv} (hs : Tx s a) (ht : Tx t b) (hl : a.tx.length + b.tx.length ≤ 59) : Tx (((⟨#[105]⟩ : ByteArray) ++ s) ++ t) (.i a b) := by
  refine ⟨⟨hs.ok, ht.ok⟩, by simp only [Lv.tx, List.length_cons, List.length_append]; omega, ?_⟩
  rw [bl_append, bl_append, hs.tx, ht.tx]
  rfl
theorem tx_s {s : ByteArray} {a : Lv} (hs : Tx s a) (hl : a.tx.length ≤ 59) : Tx ((⟨#[43]⟩ : ByteArray) ++ s) (.s a) := by
  refine ⟨hs.ok, by simp only [Lv.tx, List.length_cons]; omega, ?_⟩
  rw [bl_append, hs.tx]
  rfl
theorem tx_z : Tx (⟨#[122]⟩ : ByteArray) .z := ⟨trivial, by decide, rfl⟩
theorem tx_sz : Tx (⟨#[43, 122]⟩ : ByteArray) (.s .z) := ⟨trivial, by decide, rfl⟩
theorem nn_val {x y z : Int} (hx : 0 ≤ x) (hy : 0 ≤ y) (hz : 0 ≤ z) (t : Lv) : 0 ≤ t.val [x, y, z] := val_nn (nn3 hx hy hz) t
end Go.Proofs.Ytjnfehajgogjiaa.Pv
