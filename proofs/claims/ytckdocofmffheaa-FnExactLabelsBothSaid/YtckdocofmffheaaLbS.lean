/- The reference's sorted labels: the labels in ascending order, each once; labels that lie within others. No condition beyond the sizes. -/
import Derived.Test.YtckdocofmffheaaLbC
import Derived.Test.YtckdocofmffheaaQ4
import Derived.Test.YtckdocofmffheaaQ5
namespace Go.Proofs.Ytckdocofmffheaa.Pv
set_option linter.unusedSimpArgs false
set_option linter.unusedVariables false
open Go.RowKit Go.Proofs.Ytckdocofmffheaa.Q Go.Proofs.YtckdocofmffheaaW.PrintWords Go.Proofs.YtckdocofmffheaaW.PrintLast Go.Proofs.YtckdocofmffheaaW.PrintMore
theorem lbGet_drop (xs : List S35) (i : Nat) (h : i < xs.length) : xs.drop i = lbGet xs i :: xs.drop (i + 1) := by
  rw [List.drop_eq_getElem_cons h]
  congr 1
  unfold lbGet
  rw [List.getD_eq_getElem?_getD, List.getElem?_eq_getElem h]
  rfl
theorem lb_last (out : List S35) (h : out.length ≠ 0) : out.getLast? = some (lbGet out (out.length - 1)) := by
  rw [List.getLast?_eq_getElem?]
  unfold lbGet
  rw [List.getD_eq_getElem?_getD, List.getElem?_eq_getElem (by omega)]
  rfl
theorem ev_push {β : Type} (out : List S35) (x : S35) (M : Nat) (K : Nat → List S35 → Option β) (r : β) (hb : out.length < M) (hb2 : out.length < 4611686018427387904)
    (h : ∀ out', Push out x out' → Ev (fun k => K k out') r) :
    Ev (fun k => if (out.length : Int) = 0 then (if out.length < M then K k (out ++ [(⟨x.f0, x.f1⟩ : S35)]) else none) else
      (if 0 ≤ wrap64 ((out.length : Int) - 1) then (if wrap64 ((out.length : Int) - 1) < (out.length : Int) then
        (if (!((rd_T35 out (wrap64 ((out.length : Int) - 1))).f0 == x.f0) || !((rd_T35 out (wrap64 ((out.length : Int) - 1))).f1.toList == x.f1.toList)) = true then
          (if out.length < M then K k (out ++ [(⟨x.f0, x.f1⟩ : S35)]) else none) else K k out) else none) else none)) r := by
  by_cases h0 : out.length = 0
  · refine Ev.pos (by omega) (Ev.pos hb (h _ (.inl ⟨rfl, fun o ho => ?_⟩)))
    rw [List.eq_nil_of_length_eq_zero h0] at ho
    cases ho
  · have hw : wrap64 ((out.length : Int) - 1) = ((out.length - 1 : Nat) : Int) := by
      unfold wrap64
      omega
    rw [hw, rdT_nat]
    have hl := lb_last out h0
    refine Ev.neg (by omega) (Ev.pos (by omega) (Ev.pos (by omega) (Ev.ite (fun hn => Ev.pos hb (h _ (.inl ⟨rfl, fun o ho => ?_⟩))) (fun hn => h _ (.inr ⟨rfl, ?_⟩)))))
    · rw [hl] at ho
      cases ho
      exact (lb_ne _ _).1 hn
    · rw [hl]
      congr 1
      exact Classical.byContradiction fun e => hn ((lb_ne _ _).2 e)
theorem mem_cons_drop {α : Type} {z x : α} {out out' a a' b R : List α} (hm : ∀ z, z ∈ R ↔ z ∈ out ∨ z ∈ a ∨ z ∈ b) (ha : a = x :: a') (ho : ∀ z, z ∈ out' ↔ z ∈ out ∨ z = x) : z ∈ R ↔ z ∈ out' ∨ z ∈ a' ∨ z ∈ b := by
  rw [hm, ho, ha, List.mem_cons]
  constructor
  · rintro (h | (h | h) | h) <;> simp [h]
  · rintro ((h | h) | h | h) <;> simp [h]
theorem merge_loop (a b R : List S35) (hs : a.length + b.length ≤ 1048576) (hR : Rises lbLt R) : ∀ (d i j : Nat) (out : List S35), i + j + d = a.length + b.length → i ≤ a.length → j ≤ b.length →
    Mrg lbLt out (a.drop i) (b.drop j) → out.length ≤ i + j → (∀ z, z ∈ R ↔ z ∈ out ∨ z ∈ a.drop i ∨ z ∈ b.drop j) → Ev (fun k => spec_l03Sorted.l0 k a b out (i : Int) (j : Int)) R := by
  intro d
  induction d with
  | zero =>
    intro i j out h hi hj m _ hm
    refine Ev.succ ?_
    simp only [spec_l03Sorted.l0]
    refine Ev.neg (by omega) ?_
    rw [decide_eq_false (by omega)]
    refine Ev.succ ?_
    simp only [spec_l03Sorted.j1]
    refine Ev.neg (by simp) (Ev.val ?_)
    refine rises_one lbLt_so m.ro hR fun z => ?_
    rw [hm, List.drop_eq_nil_iff.2 (by omega), List.drop_eq_nil_iff.2 (by omega)]
    simp
  | succ d ih =>
    intro i j out h hi hj m hl hm
    have left : i < a.length → (∀ y ∈ b.drop j, lbLt y (lbGet a i) = false) → Ev (fun k => spec_l03Sorted.j2 k a b out (i : Int) (j : Int) true) R := by
      intro hia hx
      have hd := lbGet_drop a i hia
      refine Ev.succ ?_
      simp only [spec_l03Sorted.j2]
      rw [rdT_nat, wS i (by omega)]
      refine Ev.pos trivial (Ev.pos (by omega) (Ev.pos (by omega) (ev_push out (lbGet a i) _ (fun k o => spec_l03Sorted.l0 k a b o ((i + 1 : Nat) : Int) (j : Int)) R (by omega) (by omega) fun out' hp => ?_)))
      rw [hd] at m
      obtain ⟨m', hmem, hlen⟩ := m.push lbLt_so hp hx
      exact ih (i + 1) j out' (by omega) (by omega) hj m' (by omega) fun z => mem_cons_drop hm hd hmem
    have right : j < b.length → (∀ y ∈ a.drop i, lbLt y (lbGet b j) = false) → Ev (fun k => spec_l03Sorted.j2 k a b out (i : Int) (j : Int) false) R := by
      intro hjb hx
      have hd := lbGet_drop b j hjb
      refine Ev.succ ?_
      simp only [spec_l03Sorted.j2]
      rw [rdT_nat, wS j (by omega)]
      refine Ev.neg (by simp) (Ev.pos (by omega) (Ev.pos (by omega) (ev_push out (lbGet b j) _ (fun k o => spec_l03Sorted.l0 k a b o (i : Int) ((j + 1 : Nat) : Int)) R (by omega) (by omega) fun out' hp => ?_)))
      rw [hd] at m
      obtain ⟨m', hmem, hlen⟩ := m.swap.push lbLt_so hp hx
      exact ih i (j + 1) out' (by omega) hi (by omega) m'.swap (by omega) fun z => (mem_cons_drop (fun z => (hm z).trans (or_congr Iff.rfl Or.comm)) hd hmem).trans (or_congr Iff.rfl Or.comm)
    have go : Ev (fun k => spec_l03Sorted.j1 k a b out (i : Int) (j : Int) true) R := by
      refine Ev.succ ?_
      simp only [spec_l03Sorted.j1]
      rw [rdT_nat, rdT_nat]
      refine Ev.pos trivial (Ev.ite (fun h1 => left (by omega) ?_) (fun h1 => Ev.ite (fun h2 => Ev.pos (by omega) (Ev.pos (by omega) (Ev.pos (by omega) ?_))) (fun h2 => right (by omega) ?_)))
      · rw [List.drop_eq_nil_iff.2 (by omega)]
        simp
      · rw [less_eq]
        refine Ev.some_bind ?_
        cases hq : lbLess (lbGet b j).f0 (lbGet b j).f1 (lbGet a i).f0 (lbGet a i).f1 with
        | false =>
          refine left (by omega) fun y hy => ?_
          rw [lbGet_drop b j (by omega)] at hy
          rcases List.mem_cons.1 hy with rfl | hy
          · exact hq
          · have hb := m.rb
            rw [lbGet_drop b j (by omega)] at hb
            cases hc : lbLt y (lbGet a i) with
            | false => rfl
            | true =>
              have := lbLt_so.tr _ _ _ ((List.pairwise_cons.1 hb).1 y hy) hc
              rw [show lbLt (lbGet b j) (lbGet a i) = false from hq] at this
              cases this
        | true =>
          refine right (by omega) fun y hy => ?_
          rw [lbGet_drop a i (by omega)] at hy
          rcases List.mem_cons.1 hy with rfl | hy
          · exact lbLt_so.asym hq
          · have ha := m.ra
            rw [lbGet_drop a i (by omega)] at ha
            exact lbLt_so.asym (lbLt_so.tr _ _ _ hq ((List.pairwise_cons.1 ha).1 y hy))
      · rw [List.drop_eq_nil_iff.2 (by omega)]
        simp
    refine Ev.succ ?_
    simp only [spec_l03Sorted.l0]
    refine Ev.ite (fun _ => go) (fun h1 => ?_)
    rw [decide_eq_true (by omega)]
    exact go
theorem ev_sorted : ∀ (n : Nat) (l : List S35), l.length ≤ n → l.length ≤ 1048576 → Ev (fun k => spec_l03Sorted.f k l) (srtD lbLt l) := by
  intro n
  induction n with
  | zero =>
    intro l hn _
    obtain rfl : l = [] := List.eq_nil_of_length_eq_zero (by omega)
    refine Ev.succ ?_
    simp only [spec_l03Sorted.f]
    exact Ev.pos (by simp) (Ev.some_bind (Ev.pos (by simp) (Ev.val rfl)))
  | succ n ih =>
    intro l hn hl
    refine Ev.succ ?_
    simp only [spec_l03Sorted.f]
    have hw : wrap64 ((l.length : Int) / 2) = ((l.length / 2 : Nat) : Int) := by
      unfold wrap64
      omega
    refine Ev.ite (fun h2 => Ev.some_bind (a := ([] : List S35)) (Ev.pos (by rw [List.length_nil]; omega) (Ev.val ?_))) (fun h2 => ?_)
    · rw [List.nil_append]
      refine (srtD_of_rises lbLt_so ?_).symm
      match l, h2 with
      | [], _ => exact List.Pairwise.nil
      | [x], _ => exact List.pairwise_singleton _ _
      | x :: y :: l, h2 =>
        simp only [List.length_cons] at h2
        omega
    · rw [hw, Int.toNat_natCast]
      have ht : (l.take (l.length / 2)).length = l.length / 2 := by
        rw [List.length_take]
        omega
      have hd : (l.drop (l.length / 2)).length = l.length - l.length / 2 := List.length_drop
      refine Ev.pos (by omega) (Ev.pos (by omega) (Ev.bnd (ih _ (by omega) (by omega)) (Ev.bnd (ih _ (by omega) (by omega)) ?_)))
      have h1 := srtD_len (lt := lbLt) (l.take (l.length / 2))
      have h2 := srtD_len (lt := lbLt) (l.drop (l.length / 2))
      refine merge_loop _ _ (srtD lbLt l) (by omega) (srtD_rises lbLt_so _) ((srtD lbLt (l.take (l.length / 2))).length + (srtD lbLt (l.drop (l.length / 2))).length) 0 0 [] (by omega) (by omega) (by omega) (Mrg.start (srtD_rises lbLt_so _) (srtD_rises lbLt_so _)) (by simp) fun z => ?_
      rw [List.drop_zero, List.drop_zero, srtD_mem lbLt_so, srtD_mem lbLt_so, srtD_mem lbLt_so]
      simp only [List.not_mem_nil, false_or]
      rw [← List.mem_append, List.take_append_drop]
theorem ev_spec_LabelsBoth (a b : List S35) (h : a.length + b.length ≤ 1048576) : Ev (fun k => spec_LabelsBoth.f k a b) (srtD lbLt (a ++ b)) := by
  unfold spec_LabelsBoth.f
  refine Ev.some_bind (Ev.pos (by simp only [List.length_nil]; omega) ?_)
  refine Ev.pos (by simp only [List.length_append, List.length_nil]; omega) ?_
  simp only [List.nil_append]
  exact Ev.bnd (ev_sorted _ _ (Nat.le_refl _) (by rw [List.length_append]; exact h)) (Ev.val rfl)
/-- Every one of these labels is one of those. -/
def lbWithin (a b : List S35) : Bool := a.all fun x => b.any fun y => y.f0 == x.f0 && y.f1.toList == x.f1.toList
theorem lb_eq (x y : S35) : (x.f0 == y.f0 && x.f1.toList == y.f1.toList) = true ↔ x = y := by
  cases x
  cases y
  simp [toList_eq_iff]
theorem lbWithin_iff (a b : List S35) : lbWithin a b = true ↔ ∀ x ∈ a, x ∈ b := by
  unfold lbWithin
  rw [List.all_eq_true]
  refine forall_congr' fun x => forall_congr' fun _ => ?_
  rw [List.any_eq_true]
  constructor
  · rintro ⟨y, hy, e⟩
    exact (lb_eq y x).1 e ▸ hy
  · intro h
    exact ⟨x, h, (lb_eq x x).2 rfl⟩
end Go.Proofs.Ytckdocofmffheaa.Pv
