/- What the Go functions on a level's value (the program's and the reference's) come to: the value of its tree; LevelAt. No condition beyond the sizes. -/
import Derived.Test.YtjnfehajgogjiaaLvP
import Derived.Test.YtjnfehajgogjiaaCom
import Derived.Test.YtjnfehajgogjiaaQ1
import Derived.Test.YtjnfehajgogjiaaQ11
import Derived.Test.YtjnfehajgogjiaaQ12
namespace Go.Proofs.Ytjnfehajgogjiaa.Pv
set_option linter.unusedSimpArgs false
set_option linter.unusedVariables false
open Go.RowKit Go.Proofs.Ytjnfehajgogjiaa.Q Go.Proofs.YtjnfehajgogjiaaW.PrintWords Go.Proofs.YtjnfehajgogjiaaW.PrintLast Go.Proofs.YtjnfehajgogjiaaW.PrintMore
theorem mx_max (a b : Int) : mx a b = max a b := by
  unfold mx
  split <;> omega
def vOk (v : List Int) : Prop := ∀ x ∈ v, 0 ≤ x ∧ x ≤ 1000
theorem rd_getD (v : List Int) (k : Nat) : rd v (k : Int) = v.getD k 0 := by
  unfold rd
  rw [Int.toNat_natCast]
theorem ev_levelValue (s : ByteArray) (hs : s.size ≤ 140737488351232) (v : List Int) (hv : vOk v) (hvl : v.length ≤ 3) : ∀ (t : Lv) (a : Nat) (l : List Int), t.ok → t.params ≤ v.length → t.ups ≤ 60 → (bytesOf s).drop a = t.tx ++ l →
    Ev (fun k => impl_levelValue.f k s (a : Int) v) (t.val v, ((a + t.tx.length : Nat) : Int)) ∧ (bytesOf s).drop (a + t.tx.length) = l := by
  intro t
  induction t with
  | z =>
    intro a l _ _ _ h
    obtain ⟨ha, hb, hd⟩ := drop_cons (show (bytesOf s).drop a = 122 :: l from h)
    refine ⟨Ev.succ ?_, hd⟩
    simp only [impl_levelValue.f]
    refine Ev.pos (by omega) (Ev.pos (by omega) (Ev.pos hb (Ev.val ?_)))
    rw [wS a (by omega)]
    rfl
  | s t ih =>
    intro a l ho hp hu h
    obtain ⟨ha, hb, hd⟩ := drop_cons (show (bytesOf s).drop a = 43 :: (t.tx ++ l) from h)
    obtain ⟨he, hd2⟩ := ih (a + 1) l ho hp (by simp only [Lv.ups] at hu; omega) hd
    refine ⟨Ev.succ ?_, by rw [← hd2]; congr 1; simp only [Lv.tx, List.length_cons]; omega⟩
    simp only [impl_levelValue.f]
    refine Ev.pos (by omega) (Ev.pos (by omega) (Ev.neg (by omega) (Ev.pos hb ?_)))
    rw [wS a (by omega)]
    refine Ev.bnd he (Ev.val ?_)
    have hb2 := val_bounds v 1000 (by omega) hv t
    simp only [Lv.ups] at hu
    rw [w_id (by simp only; omega) (by simp only; omega)]
    simp only [Lv.val, Lv.tx, List.length_cons]
    rw [show a + 1 + t.tx.length = a + (t.tx.length + 1) from by omega]
  | m x y ihx ihy =>
    intro a l ho hp hu h
    simp only [Lv.params, Lv.ups] at hp hu
    obtain ⟨ha, hb, hd⟩ := drop_cons (show (bytesOf s).drop a = 109 :: ((x.tx ++ y.tx) ++ l) from h)
    rw [List.append_assoc] at hd
    obtain ⟨hex, hdx⟩ := ihx (a + 1) _ ho.1 (by omega) (by omega) hd
    obtain ⟨hey, hdy⟩ := ihy (a + 1 + x.tx.length) l ho.2 (by omega) (by omega) hdx
    refine ⟨Ev.succ ?_, by rw [← hdy]; congr 1; simp only [Lv.tx, List.length_cons, List.length_append]; omega⟩
    simp only [impl_levelValue.f]
    refine Ev.pos (by omega) (Ev.pos (by omega) (Ev.neg (by omega) (Ev.neg (by omega) (Ev.neg (by omega) ?_))))
    rw [wS a (by omega)]
    refine Ev.bnd hex (Ev.bnd hey (Ev.neg (by omega) (Ev.val ?_)))
    simp only [Lv.val, Lv.tx, List.length_cons, List.length_append, mx_max]
    rw [show a + 1 + x.tx.length + y.tx.length = a + (x.tx.length + y.tx.length + 1) from by omega]
  | i x y ihx ihy =>
    intro a l ho hp hu h
    simp only [Lv.params, Lv.ups] at hp hu
    obtain ⟨ha, hb, hd⟩ := drop_cons (show (bytesOf s).drop a = 105 :: ((x.tx ++ y.tx) ++ l) from h)
    rw [List.append_assoc] at hd
    obtain ⟨hex, hdx⟩ := ihx (a + 1) _ ho.1 (by omega) (by omega) hd
    obtain ⟨hey, hdy⟩ := ihy (a + 1 + x.tx.length) l ho.2 (by omega) (by omega) hdx
    refine ⟨Ev.succ ?_, by rw [← hdy]; congr 1; simp only [Lv.tx, List.length_cons, List.length_append]; omega⟩
    simp only [impl_levelValue.f]
    refine Ev.pos (by omega) (Ev.pos (by omega) (Ev.neg (by omega) (Ev.neg (by omega) (Ev.neg (by omega) ?_))))
    rw [wS a (by omega)]
    refine Ev.bnd hex (Ev.bnd hey (Ev.pos hb ?_))
    simp only [Lv.val, Lv.tx, List.length_cons, List.length_append, mx_max]
    rw [show a + 1 + x.tx.length + y.tx.length = a + (x.tx.length + y.tx.length + 1) from by omega]
    refine Ev.ite (fun e => Ev.val ?_) (fun e => Ev.val ?_)
    · rw [if_pos e]
    · rw [if_neg e]
  | u j =>
    intro a l ho hp _ h
    have hj : j < 3 := ho
    simp only [Lv.params] at hp
    obtain ⟨ha, hb, hd⟩ := drop_cons (show (bytesOf s).drop a = 117 :: ((48 + (j : Int)) :: l) from h)
    obtain ⟨ha1, hb1, hd1⟩ := drop_cons hd
    refine ⟨Ev.succ ?_, hd1⟩
    simp only [impl_levelValue.f]
    refine Ev.pos (by omega) (Ev.pos (by omega) (Ev.neg (by omega) (Ev.neg (by omega) (Ev.pos hb ?_))))
    rw [wS a (by omega), hb1]
    refine Ev.pos (by omega) (Ev.pos (by omega) (Ev.pos (by omega) (Ev.pos (by omega) (Ev.val ?_))))
    rw [show (48 + (j : Int) - 48) % 256 = (j : Int) from by omega, rd_getD, w_id (by omega) (by omega)]
    simp only [Lv.val, Lv.tx, List.length_cons, List.length_nil]
    rfl
theorem ev_valueOf (s : ByteArray) (v : List Int) (hv : vOk v) (hvl : v.length ≤ 3) (t : Lv) (ho : t.ok) (hl : t.tx.length ≤ 60) (hp : t.params ≤ v.length) (e : bytesOf s = t.tx) : Ev (fun k => impl_valueOf.f k s v) (t.val v) := by
  have hz : s.size ≤ 60 := by rw [← bl_length, e]; exact hl
  unfold impl_valueOf.f
  refine Ev.bnd (ev_levelValue s (by omega) v hv hvl t 0 [] ho hp (Nat.le_trans (ups_le t) hl) (by rw [List.drop_zero, e, List.append_nil])).1 (Ev.val rfl)
/-- LevelAt at a tree. -/
def lvAt (t : Lv) (v : List Int) : Int := if v.length < t.params ∨ 3 < v.length then -1 else if v.all (fun x => decide (0 ≤ x ∧ x ≤ 1000)) = true then t.val v else -1
theorem vOk_of {v : List Int} (h : v.all (fun x => decide (0 ≤ x ∧ x ≤ 1000)) = true) : vOk v := by
  intro x hx
  have := List.all_eq_true.1 h x hx
  exact of_decide_eq_true this
theorem all_of {v : List Int} (h : vOk v) : v.all (fun x => decide (0 ≤ x ∧ x ≤ 1000)) = true := List.all_eq_true.2 fun x hx => decide_eq_true (h x hx)
theorem lvAt_ok (t : Lv) (v : List Int) (hv : vOk v) (h3 : v.length ≤ 3) (hp : t.params ≤ v.length) : lvAt t v = t.val v := by
  unfold lvAt
  rw [if_neg (by omega), if_pos (all_of hv)]
theorem ev_bad1 (x : Int) : impl_LevelAt_1.f x = some (!decide (0 ≤ x ∧ x ≤ 1000)) := by
  unfold impl_LevelAt_1.f impl_in.f
  by_cases h : 0 ≤ x
  · rw [if_pos h]
    simp [h]
  · rw [if_neg h]
    simp [h]
theorem ev_index1 (v : List Int) (hv : v.length ≤ 140737488351232) : ∀ (d i : Nat), i + d = v.length → ∃ r : Int, Ev (fun k => slices_IndexFunc_int_int_at_impl_LevelAt_1.l0 k v (v.length : Int) (i : Int)) r ∧ (decide (r ≥ 0) = !((v.drop i).all (fun x => decide (0 ≤ x ∧ x ≤ 1000)))) := by
  intro d
  induction d with
  | zero =>
    intro i h
    refine ⟨-1, Ev.succ ?_, ?_⟩
    · simp only [slices_IndexFunc_int_int_at_impl_LevelAt_1.l0]
      exact Ev.neg (by omega) (Ev.val rfl)
    · rw [List.drop_eq_nil_iff.2 (by omega)]
      rfl
  | succ d ih =>
    intro i h
    have hi : i < v.length := by omega
    rw [List.drop_eq_getElem_cons hi]
    obtain ⟨r, he, hr⟩ := ih (i + 1) (by omega)
    by_cases hb : 0 ≤ v[i] ∧ v[i] ≤ 1000
    · refine ⟨r, Ev.succ ?_, ?_⟩
      · simp only [slices_IndexFunc_int_int_at_impl_LevelAt_1.l0]
        refine Ev.pos (by omega) (Ev.pos (by omega) (Ev.pos (by omega) ?_))
        rw [rd_at v i hi, ev_bad1, decide_eq_true hb]
        refine Ev.some_bind (Ev.neg (by simp) ?_)
        rw [wS i (by omega)]
        exact he
      · rw [hr, List.all_cons, decide_eq_true hb, Bool.true_and]
    · refine ⟨(i : Int), Ev.succ ?_, ?_⟩
      · simp only [slices_IndexFunc_int_int_at_impl_LevelAt_1.l0]
        refine Ev.pos (by omega) (Ev.pos (by omega) (Ev.pos (by omega) ?_))
        rw [rd_at v i hi, ev_bad1, decide_eq_false hb]
        exact Ev.some_bind (Ev.pos (by simp) (Ev.val rfl))
      · rw [List.all_cons, decide_eq_false hb, Bool.false_and, decide_eq_true (by omega)]
        rfl
theorem ev_contains1 (v : List Int) (hv : v.length ≤ 140737488351232) : Ev (fun k => slices_ContainsFunc_int_int_at_impl_LevelAt_1.f k v) (!(v.all (fun x => decide (0 ≤ x ∧ x ≤ 1000)))) := by
  unfold slices_ContainsFunc_int_int_at_impl_LevelAt_1.f slices_IndexFunc_int_int_at_impl_LevelAt_1.f
  obtain ⟨r, he, hr⟩ := ev_index1 v hv v.length 0 (by omega)
  exact Ev.bnd he (Ev.val (by rw [hr, List.drop_zero]))
theorem ev_LevelAt (s : ByteArray) (v : List Int) (hv : v.length ≤ 140737488351232) (t : Lv) (ho : t.ok) (hl : t.tx.length ≤ 60) (e : bytesOf s = t.tx) : Ev (fun k => impl_LevelAt.f k s v) (lvAt t v) := by
  unfold impl_LevelAt.f
  refine Ev.bnd (ev_LevelOk s) ?_
  rw [e, lvOk_of ho hl]
  refine Ev.pos rfl (Ev.bnd (ev_LevelParams s) ?_)
  rw [e, lvPar_tree t ho hl]
  unfold lvAt
  by_cases h1 : v.length < t.params
  · refine Ev.pos (by omega) (Ev.val ?_)
    rw [if_pos (.inl h1)]
  refine Ev.neg (by omega) ?_
  by_cases h2 : 3 < v.length
  · refine Ev.pos (by omega) (Ev.val ?_)
    rw [if_pos (.inr h2)]
  refine Ev.neg (by omega) (Ev.bnd (ev_contains1 v hv) ?_)
  rw [if_neg (by omega)]
  by_cases h3 : v.all (fun x => decide (0 ≤ x ∧ x ≤ 1000)) = true
  · rw [if_pos h3, h3]
    refine Ev.neg (by simp) (Ev.bnd (ev_valueOf s v (vOk_of h3) (by omega) t ho hl (by omega) e) (Ev.val rfl))
  · rw [if_neg h3]
    refine Ev.pos (by simpa using h3) (Ev.val rfl)
theorem ev_LevelAt_no (s : ByteArray) (v : List Int) (h : lvOk (bytesOf s) = false) : Ev (fun k => impl_LevelAt.f k s v) (-1) := by
  unfold impl_LevelAt.f
  refine Ev.bnd (ev_LevelOk s) ?_
  rw [h]
  exact Ev.neg (by simp) (Ev.val rfl)
end Go.Proofs.Ytjnfehajgogjiaa.Pv
