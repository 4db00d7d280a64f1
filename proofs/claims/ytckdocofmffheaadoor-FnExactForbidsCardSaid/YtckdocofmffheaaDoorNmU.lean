/- What the Go function Under comes to, of the program and of the reference. No condition beyond the sizes. -/
import Derived.Test.YtckdocofmffheaaDoorNmE
import Derived.Test.YtckdocofmffheaaDoorQ15
import Derived.Test.YtckdocofmffheaaDoorQ16
namespace Go.Proofs.YtckdocofmffheaaDoor.Pv
set_option linter.unusedSimpArgs false
set_option linter.unusedVariables false
open Go.RowKit Go.Proofs.YtckdocofmffheaaDoor.Q Go.Proofs.YtckdocofmffheaaDoorW.PrintWords Go.Proofs.YtckdocofmffheaaDoorW.PrintLast Go.Proofs.YtckdocofmffheaaDoorW.PrintMore
theorem toList_inj {a b : ByteArray} : a.toList = b.toList ↔ a = b := by
  rw [ByteArray.toList_eq, ByteArray.toList_eq]
  constructor
  · intro h
    cases a
    cases b
    simp only at h
    rw [Array.toList_inj.1 h]
  · rintro rfl
    rfl
theorem map_bl_inj : ∀ {xs ys : List ByteArray}, xs.map bytesOf = ys.map bytesOf → xs = ys
  | [], [], _ => rfl
  | [], _ :: _, h => by simp at h
  | _ :: _, [], h => by simp at h
  | x :: xs, y :: ys, h => by
    simp only [List.map_cons, List.cons.injEq] at h
    rw [bl_inj h.1, map_bl_inj h.2]
theorem nameOk_size {s : ByteArray} (h : nameOk (bytesOf s) = true) : s.size ≤ 40 := by
  unfold nameOk at h
  rw [Bool.and_eq_true] at h
  have := of_decide_eq_true h.1
  rwa [bl_length] at this
/-- The parts of a name, of the reference. -/
theorem ev_spec_parts (s : ByteArray) : ∃ r : List ByteArray, Ev (fun k => spec_NameParts.f k s) r ∧
    r.length ≤ 41 ∧ ((nameOk (bytesOf s) = true ∧ r.map bytesOf = cutL 46 (bytesOf s) ∧ r ≠ []) ∨ (nameOk (bytesOf s) = false ∧ r = [])) := by
  by_cases h : nameOk (bytesOf s) = true
  · have hs := nameOk_size h
    obtain ⟨q, e2, m2⟩ := ev_Cut s (by omega) 46
    have hl := cutL_length 46 (bytesOf s)
    have hc : (bytesOf s).count 46 ≤ s.size := by
      rw [← bl_length]
      exact List.count_le_length
    have hlen : q.length = (cutL 46 (bytesOf s)).length := by rw [← m2, List.length_map]
    refine ⟨q, ?_, by omega, .inl ⟨h, m2, fun e => ?_⟩⟩
    · unfold spec_NameParts.f
      exact Ev.bnd (ev_spec_NameOk s) (Ev.pos h (Ev.bnd e2 (Ev.val rfl)))
    · rw [e] at hlen
      simp at hlen
      omega
  · refine ⟨[], ?_, by simp, .inr ⟨Bool.eq_false_iff.2 h, rfl⟩⟩
    unfold spec_NameParts.f
    exact Ev.bnd (ev_spec_NameOk s) (Ev.neg h (Ev.val rfl))
theorem spec_under_l0 (xs ys : List ByteArray) (hl : xs.length ≤ ys.length) (hy : xs.length ≤ 1048576) : ∀ (d i : Nat), i + d = xs.length → Ev (fun k => spec_Under.l0 k xs ys (i : Int)) (decide (xs.drop i <+: ys.drop i)) := by
  intro d
  induction d with
  | zero =>
    intro i h
    refine Ev.succ ?_
    simp only [spec_Under.l0]
    refine Ev.neg (by omega) (Ev.val ?_)
    rw [List.drop_eq_nil_iff.2 (show xs.length ≤ i by omega)]
    exact (decide_eq_true (List.nil_prefix)).symm
  | succ d ih =>
    intro i h
    have hi : i < xs.length := by omega
    have hj : i < ys.length := by omega
    refine Ev.succ ?_
    simp only [spec_Under.l0]
    refine Ev.pos (by omega) (Ev.pos (by omega) (Ev.pos (by omega) ?_))
    rw [rdOf_at _ _ _ hi, rdOf_at _ _ _ hj, wS i (by omega), List.drop_eq_getElem_cons hi, List.drop_eq_getElem_cons hj]
    refine Ev.ite (fun e => Ev.cast (ih (i + 1) (by omega)) ?_) (fun e => Ev.val ?_)
    · rw [decide_eq_decide, List.cons_prefix_cons]
      exact ⟨fun h => ⟨toList_inj.1 e, h⟩, fun h => h.2⟩
    · symm
      apply decide_eq_false
      rw [List.cons_prefix_cons]
      exact fun h => e (by rw [h.1])
/-- Is the second name under the first? -/
def nmUnder (a b : ByteArray) : Bool := nameOk (bytesOf a) && (nameOk (bytesOf b) && decide (cutL 46 (bytesOf a) <+: cutL 46 (bytesOf b)))
theorem map_prefix {xs ys : List ByteArray} : xs.map bytesOf <+: ys.map bytesOf ↔ xs <+: ys := by
  constructor
  · intro h
    rw [List.prefix_iff_eq_take, List.length_map, ← List.map_take] at h
    rw [List.prefix_iff_eq_take]
    exact map_bl_inj h
  · rintro ⟨t, rfl⟩
    exact ⟨t.map bytesOf, by rw [List.map_append]⟩
theorem ev_spec_Under (a b : ByteArray) : Ev (fun k => spec_Under.f k a b) (nmUnder a b) := by
  obtain ⟨r, e1, l1, c1⟩ := ev_spec_parts a
  obtain ⟨q, e2, l2, c2⟩ := ev_spec_parts b
  unfold spec_Under.f
  refine Ev.bnd e1 (Ev.bnd e2 ?_)
  have no : Ev (fun k => spec_Under.j0 k r q true) false := by
    refine Ev.succ ?_
    simp only [spec_Under.j0]
    exact Ev.pos trivial (Ev.val rfl)
  unfold nmUnder
  rcases c1 with ⟨o1, m1, n1⟩ | ⟨o1, rfl⟩
  · have hr : 0 < r.length := List.length_pos_iff.2 n1
    rw [o1, Bool.true_and]
    refine Ev.neg (by omega) ?_
    rcases c2 with ⟨o2, m2, n2⟩ | ⟨o2, rfl⟩
    · rw [o2, Bool.true_and, ← m1, ← m2]
      by_cases hlt : r.length > q.length
      · rw [decide_eq_true (show (r.length : Int) > (q.length : Int) by omega), decide_eq_false (fun h => by have := h.length_le; rw [List.length_map, List.length_map] at this; omega)]
        exact no
      · rw [decide_eq_false (show ¬ (r.length : Int) > (q.length : Int) by omega)]
        refine Ev.succ ?_
        simp only [spec_Under.j0]
        refine Ev.neg (by simp) (Ev.cast (spec_under_l0 r q (by omega) (by omega) r.length 0 (by omega)) ?_)
        rw [List.drop_zero, List.drop_zero, decide_eq_decide]
        exact map_prefix.symm
    · rw [o2, Bool.false_and, decide_eq_true (by rw [List.length_nil]; omega)]
      exact no
  · rw [o1, Bool.false_and]
    exact Ev.pos rfl no
theorem hasPrefix_eq (s p : ByteArray) : strings_HasPrefix.f s p = some (decide (bytesOf p <+: bytesOf s)) := by
  unfold strings_HasPrefix.f stringslite_HasPrefix.f
  by_cases h : (s.size : Int) ≥ (p.size : Int)
  · rw [if_pos h, if_pos (by omega), if_pos (by omega)]
    show some _ = _
    congr 1
    rw [Bool.eq_iff_iff, beq_iff_eq, decide_eq_true_iff, toList_inj, List.prefix_iff_eq_take, bl_length]
    constructor
    · intro e
      have e2 := congrArg bytesOf e
      rw [bl_extract, Int.toNat_natCast, List.drop_zero, Nat.sub_zero] at e2
      exact e2.symm
    · intro e
      apply bl_inj
      rw [bl_extract, Int.toNat_natCast, e]
      simp
  · rw [if_neg h]
    show some _ = _
    congr 1
    symm
    apply decide_eq_false
    intro e
    have := e.length_le
    rw [bl_length, bl_length] at this
    omega
theorem ev_Under (a b : ByteArray) (ha : a.size ≤ 140737488351232) : Ev (fun k => impl_Under.f k a b) (nmUnder a b) := by
  unfold impl_Under.f nmUnder
  refine Ev.bnd (ev_NameOk a) ?_
  by_cases h1 : nameOk (bytesOf a) = true
  · rw [h1, Bool.true_and]
    refine Ev.pos rfl (Ev.bnd (ev_NameOk b) ?_)
    by_cases h2 : nameOk (bytesOf b) = true
    · rw [h2, Bool.true_and]
      refine Ev.pos rfl ?_
      have hc := cut_prefix 46 (bytesOf a) (bytesOf b)
      by_cases h3 : a.toList = b.toList
      · refine Ev.pos h3 (Ev.val ?_)
        rw [toList_inj] at h3
        symm
        apply decide_eq_true
        rw [h3]
        exact List.prefix_refl _
      · refine Ev.neg h3 (Ev.pos (by omega) ?_)
        rw [hasPrefix_eq]
        refine Ev.some_bind (Ev.val ?_)
        rw [decide_eq_decide, hc, bl_append]
        constructor
        · exact .inr
        · rintro (e | e)
          · exact absurd (by rw [bl_inj e]) h3
          · exact e
    · rw [Bool.eq_false_iff.2 h2, Bool.false_and]
      exact Ev.neg (by simp) (Ev.val rfl)
  · rw [Bool.eq_false_iff.2 h1, Bool.false_and]
    exact Ev.neg (by simp) (Ev.val rfl)
end Go.Proofs.YtckdocofmffheaaDoor.Pv
