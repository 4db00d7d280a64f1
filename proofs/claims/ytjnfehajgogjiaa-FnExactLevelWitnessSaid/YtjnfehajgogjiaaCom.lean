/- The law file's helpers on slices of whole numbers: compared with itself, copied, marked and held. No condition beyond the sizes. -/
import Derived.Test.YtjnfehajgogjiaaEv
import Derived.Test.YtjnfehajgogjiaaQ11
import Derived.Test.YtjnfehajgogjiaaQ13
import Derived.Test.YtjnfehajgogjiaaQ18
namespace Go.Proofs.Ytjnfehajgogjiaa.Pv
set_option linter.unusedSimpArgs false
set_option linter.unusedVariables false
open Go.RowKit Go.Proofs.Ytjnfehajgogjiaa.Q Go.Proofs.YtjnfehajgogjiaaW.PrintWords Go.Proofs.YtjnfehajgogjiaaW.PrintLast Go.Proofs.YtjnfehajgogjiaaW.PrintMore
theorem ev_eqIntS_l0 (a : List Int) (ha : a.length ≤ 140737488351232) : ∀ (d i : Nat), i + d = a.length → Ev (fun k => laws_eqIntS.l0 k a a (i : Int)) true := by
  intro d
  induction d with
  | zero =>
    intro i h
    refine Ev.succ ?_
    simp only [laws_eqIntS.l0]
    exact Ev.neg (by omega) (Ev.val rfl)
  | succ d ih =>
    intro i h
    refine Ev.succ ?_
    simp only [laws_eqIntS.l0]
    refine Ev.pos (by omega) (Ev.pos (by omega) (Ev.pos (by omega) (Ev.pos (by first | rfl | trivial) ?_)))
    rw [wS i (by omega)]
    exact ih (i + 1) (by omega)
theorem ev_eqIntS (a : List Int) (ha : a.length ≤ 140737488351232) : Ev (fun k => laws_eqIntS.f k a a) true := by
  unfold laws_eqIntS.f
  exact Ev.pos rfl (ev_eqIntS_l0 a ha a.length 0 (by omega))
theorem fill_step {α : Type} (l : List α) (z : α) (i : Nat) (h : i < l.length) : (l.take i ++ List.replicate (l.length - i) z).set i l[i] = l.take (i + 1) ++ List.replicate (l.length - (i + 1)) z := by
  apply List.ext_getElem
  · simp
    omega
  · intro j h1 h2
    rw [List.getElem_set]
    by_cases hj : i = j
    · subst hj
      rw [if_pos rfl, List.getElem_append_left (by simp; omega)]
      simp
    · rw [if_neg hj]
      by_cases hji : j < i
      · rw [List.getElem_append_left (by simp; omega), List.getElem_append_left (by simp; omega)]
        simp
      · rw [List.getElem_append_right (by simp; omega), List.getElem_append_right (by simp; omega)]
        simp
theorem rd_at (l : List Int) (i : Nat) (h : i < l.length) : rd l (i : Int) = l[i] := by
  unfold rd
  rw [Int.toNat_natCast, List.getD_eq_getElem?_getD, List.getElem?_eq_getElem h]
  rfl
theorem ev_toIntS_l0 (l : List Int) (hl : l.length ≤ 35184372088832) : ∀ (d i : Nat), i + d = l.length → Ev (fun k => laws_toIntS.l0 k l (l.take i ++ List.replicate (l.length - i) 0) (i : Int)) l := by
  intro d
  induction d with
  | zero =>
    intro i h
    refine Ev.succ ?_
    simp only [laws_toIntS.l0]
    refine Ev.neg (by omega) (Ev.val ?_)
    rw [List.take_of_length_le (by omega), show l.length - i = 0 from by omega]
    simp
  | succ d ih =>
    intro i h
    refine Ev.succ ?_
    simp only [laws_toIntS.l0]
    refine Ev.pos (by omega) (Ev.pos (by omega) (Ev.pos (by simp; omega) ?_))
    rw [wS i (by omega), rd_at l i (by omega), Int.toNat_natCast, fill_step l 0 i (by omega)]
    exact ih (i + 1) (by omega)
theorem ev_toIntS (l : List Int) (hl : l.length ≤ 35184372088832) : Ev (fun k => laws_toIntS.f k l) l := by
  unfold laws_toIntS.f
  refine Ev.pos (by omega) (Ev.pos (by omega) ?_)
  rw [Int.toNat_natCast]
  exact ev_toIntS_l0 l hl l.length 0 (by omega)
theorem ev_markIntS_l0 (n : Nat) (hn : n ≤ 140737488351232) : ∀ (d i m : Nat) (a : List Int), a.length = n → i + d = n → m ≤ i + 1 → ∃ r, Ev (fun k => laws_markIntS.l0 k a (m : Int) (i : Int)) (((m + d : Nat) : Int), r) ∧ r.length = n ∧ (∀ j, j < i → r.getD j 0 = a.getD j 0) ∧ (∀ j, i ≤ j → j < n → r.getD j 0 = ((m + (j - i) : Nat) : Int)) := by
  intro d
  induction d with
  | zero =>
    intro i m a ha h _
    refine ⟨a, Ev.succ ?_, ha, fun _ _ => rfl, fun j h1 h2 => by omega⟩
    simp only [laws_markIntS.l0]
    exact Ev.neg (by omega) (Ev.val rfl)
  | succ d ih =>
    intro i m a ha h hm
    obtain ⟨r, he, hr, h1, h2⟩ := ih (i + 1) (m + 1) (a.set i (m : Int)) (by simpa using ha) (by omega) (by omega)
    refine ⟨r, Ev.succ ?_, hr, ?_, ?_⟩
    · simp only [laws_markIntS.l0]
      refine Ev.pos (by omega) (Ev.pos (by omega) ?_)
      rw [Int.toNat_natCast, wS i (by omega), wS m (by omega)]
      rw [show m + (d + 1) = m + 1 + d from by omega]
      exact he
    · intro j hj
      rw [h1 j (by omega), List.getD_eq_getElem?_getD, List.getD_eq_getElem?_getD, List.getElem?_set_ne (by omega)]
    · intro j hj hjn
      by_cases e : j = i
      · subst e
        rw [h1 j (by omega), List.getD_eq_getElem?_getD, List.getElem?_set_self (by omega)]
        simp
      · rw [h2 j (by omega) hjn]
        congr 1
        omega
theorem ev_heldIntS_l0 (n : Nat) (hn : n ≤ 140737488351232) (r : List Int) (hr : r.length = n) : ∀ (d i m : Nat), i + d = n → m ≤ i + 1 → (∀ j, i ≤ j → j < n → r.getD j 0 = ((m + (j - i) : Nat) : Int)) → Ev (fun k => laws_heldIntS.l0 k r (m : Int) (i : Int)) ((m + d : Nat) : Int) := by
  intro d
  induction d with
  | zero =>
    intro i m h _ _
    refine Ev.succ ?_
    simp only [laws_heldIntS.l0]
    exact Ev.neg (by omega) (Ev.val rfl)
  | succ d ih =>
    intro i m h hm hj
    refine Ev.succ ?_
    simp only [laws_heldIntS.l0]
    refine Ev.pos (by omega) (Ev.pos (by omega) (Ev.pos ?_ ?_))
    · have := hj i (by omega) (by omega)
      unfold rd
      rw [Int.toNat_natCast, this]
      congr 1
      omega
    · rw [wS i (by omega), wS m (by omega), show m + (d + 1) = m + 1 + d from by omega]
      refine ih (i + 1) (m + 1) (by omega) (by omega) (fun j h1 h2 => ?_)
      rw [hj j (by omega) h2]
      congr 1
      omega
/-- What was marked is held. -/
theorem mark_held (a : List Int) (ha : a.length ≤ 140737488351232) : ∃ r, Ev (fun k => laws_markIntS.f k a 1) (((1 + a.length : Nat) : Int), r) ∧ Ev (fun k => laws_heldIntS.f k r 1) ((1 + a.length : Nat) : Int) := by
  obtain ⟨r, he, hr, _, h2⟩ := ev_markIntS_l0 a.length ha a.length 0 1 a rfl (by omega) (by omega)
  exact ⟨r, he, ev_heldIntS_l0 a.length ha r hr a.length 0 1 (by omega) (by omega) h2⟩
end Go.Proofs.Ytjnfehajgogjiaa.Pv
