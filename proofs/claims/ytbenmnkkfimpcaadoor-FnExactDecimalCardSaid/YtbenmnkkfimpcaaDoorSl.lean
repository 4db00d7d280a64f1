/- Laws on loops over slices: spending a budget, copying element by element, comparing, searching: 'from some number of rounds on'. No condition. -/
import Derived.Test.YtbenmnkkfimpcaaDoorEv
namespace Go.Proofs.YtbenmnkkfimpcaaDoor.Pv
set_option linter.unusedSimpArgs false
set_option linter.unusedVariables false
open Go.RowKit Go.Proofs.YtbenmnkkfimpcaaDoorW.PrintWords Go.Proofs.YtbenmnkkfimpcaaDoorW.PrintLast Go.Proofs.YtbenmnkkfimpcaaDoorW.PrintMore
/-- What is left of a when m is spent; -1 when it does not do. -/
def spend (a : Int) (m : Nat) : Int := if (m : Int) ≤ a then a - m else -1
theorem spend_lt {a : Int} {m : Nat} (h : spend a m < 0) : a < m := by
  unfold spend at h
  split at h <;> omega
theorem spend_ge {a : Int} {m : Nat} (h : ¬ spend a m < 0) : (m : Int) ≤ a ∧ spend a m = a - m := by
  unfold spend at h ⊢
  split at h
  · rename_i h1
    rw [if_pos h1]
    exact ⟨h1, rfl⟩
  · omega
theorem spend_no {a : Int} {m : Nat} (h : a < m) : spend a m = -1 := if_neg (by omega)
theorem spend_yes {a : Int} {m : Nat} (h : (m : Int) ≤ a) : spend a m = a - m := if_pos h
theorem spend_zero {a : Int} (h : 0 ≤ a) : spend a 0 = a := by
  rw [spend_yes (by omega)]
  omega
theorem rdOf_at {α : Type} (z : α) (l : List α) (i : Nat) (h : i < l.length) : rdOf z l (i : Int) = l[i] := by
  unfold rdOf
  rw [Int.toNat_natCast, List.getD_eq_getElem?_getD, List.getElem?_eq_getElem h]
  rfl
theorem getD_at {α : Type} (z : α) (l : List α) (i : Nat) (h : i < l.length) : l.getD ((i : Int)).toNat z = l[i] := by
  rw [Int.toNat_natCast, List.getD_eq_getElem?_getD, List.getElem?_eq_getElem h]
  rfl
theorem drop_sum {α : Type} (m : α → Nat) (l : List α) (i : Nat) (h : i < l.length) : ((l.drop i).map m).sum = m l[i] + ((l.drop (i + 1)).map m).sum := by
  rw [List.drop_eq_getElem_cons h, List.map_cons, List.sum_cons]
theorem mem_sum {α : Type} (m : α → Nat) : ∀ (l : List α) (x : α), x ∈ l → m x ≤ (l.map m).sum := by
  intro l
  induction l with
  | nil => intro x h; cases h
  | cons y l ih =>
    intro x h
    rw [List.map_cons, List.sum_cons]
    rcases List.mem_cons.1 h with rfl | h
    · omega
    · have := ih x h
      omega
theorem ev_spendL {α : Type} (xs : List α) (m : α → Nat) (L : Nat → Int → Int → Option Int) (h0 : ∀ a, Ev (fun k => L k a (xs.length : Int)) a)
    (h1 : ∀ (i : Nat) (hi : i < xs.length) (a : Int) (r : Int), 0 ≤ a → a ≤ 1048576 → (a < m xs[i] → r = -1) → ((m xs[i] : Int) ≤ a → Ev (fun k => L k (a - m xs[i]) ((i + 1 : Nat) : Int)) r) → Ev (fun k => L k a (i : Int)) r) :
    ∀ (d i : Nat), i + d = xs.length → ∀ a : Int, 0 ≤ a → a ≤ 1048576 → Ev (fun k => L k a (i : Int)) (spend a ((xs.drop i).map m).sum) := by
  intro d
  induction d with
  | zero =>
    intro i h a ha _
    obtain rfl : i = xs.length := by omega
    rw [List.drop_length, List.map_nil, List.sum_nil, spend_zero ha]
    exact h0 a
  | succ d ih =>
    intro i h a ha hb
    refine h1 i (by omega) a _ ha hb (fun hn => ?_) (fun hy => ?_)
    · rw [drop_sum m xs i (by omega), spend_no (by omega)]
    · refine Ev.cast (ih (i + 1) (by omega) _ (by omega) (by omega)) ?_
      rw [drop_sum m xs i (by omega)]
      unfold spend
      by_cases hc : (((xs.drop (i + 1)).map m).sum : Int) ≤ a - m xs[i]
      · rw [if_pos hc, if_pos (by omega)]
        omega
      · rw [if_neg hc, if_neg (by omega)]
theorem ev_spendS {α : Type} (xs : List α) (m : α → Nat) (L : Nat → Int → Int → Option Int) (hl : xs.length ≤ 9223372036854775807) (h0 : ∀ a, Ev (fun k => L k a (xs.length : Int)) a)
    (h1 : ∀ (i : Nat) (hi : i < xs.length) (a : Int) (r : Int), xs.length ≤ 1048576 → 0 ≤ a → a ≤ 1048576 → (a < m xs[i] → r = -1) → ((m xs[i] : Int) ≤ a → Ev (fun k => L k (a - m xs[i]) ((i + 1 : Nat) : Int)) r) → Ev (fun k => L k a (i : Int)) r)
    (a : Int) (ha : 0 ≤ a) (hb : a ≤ 1048576) :
    Ev (fun k => if (wrap64 (a - (xs.length : Int))) < 0 then (some (-1)) else L k (wrap64 (a - (xs.length : Int))) 0) (spend a (xs.length + (xs.map m).sum)) := by
  rw [w_id (by omega) (by omega)]
  refine Ev.ite (fun h => Ev.val (spend_no (by omega)).symm) (fun h => ?_)
  have := ev_spendL xs m L h0 (fun i hi a r p q => h1 i hi a r (by omega) p q) xs.length 0 (by omega) (a - xs.length) (by omega) (by omega)
  refine Ev.cast this ?_
  rw [List.drop_zero]
  unfold spend
  by_cases hc : ((xs.map m).sum : Int) ≤ a - xs.length
  · rw [if_pos hc, if_pos (by omega)]
    omega
  · rw [if_neg hc, if_neg (by omega)]
theorem fill_set {α : Type} (l : List α) (z : α) (i : Nat) (h : i < l.length) : (l.take i ++ List.replicate (l.length - i) z).set i l[i] = l.take (i + 1) ++ List.replicate (l.length - (i + 1)) z := by
  have e : l.length - i = (l.length - (i + 1)) + 1 := by omega
  rw [e, List.replicate_succ, List.set_append_right _ _ (by simp; omega)]
  rw [show i - (l.take i).length = 0 from by simp; omega, List.set_cons_zero, ← List.take_append_getElem h, List.append_assoc]
  rfl
theorem ev_copyL {α β : Type} (xs : List α) (c : α → β) (z : β) (L : Nat → List β → Int → Option (List β)) (h0 : ∀ ys, Ev (fun k => L k ys (xs.length : Int)) ys)
    (h1 : ∀ (i : Nat) (hi : i < xs.length) (ys : List β) (r : List β), ys.length = xs.length → Ev (fun k => L k (ys.set i (c xs[i])) ((i + 1 : Nat) : Int)) r → Ev (fun k => L k ys (i : Int)) r) :
    Ev (fun k => L k (List.replicate xs.length z) 0) (xs.map c) := by
  have key : ∀ (d i : Nat), i + d = xs.length → Ev (fun k => L k ((xs.map c).take i ++ List.replicate ((xs.map c).length - i) z) (i : Int)) (xs.map c) := by
    intro d
    induction d with
    | zero =>
      intro i h
      obtain rfl : i = xs.length := by omega
      refine Ev.cast (h0 _) ?_
      simp [List.take_of_length_le]
    | succ d ih =>
      intro i h
      refine h1 i (by omega) _ _ (by simp; omega) ?_
      have e := fill_set (xs.map c) z i (by simp; omega)
      rw [List.getElem_map] at e
      rw [e]
      exact ih (i + 1) (by omega)
  have := key xs.length 0 (by omega)
  simpa using this
theorem ev_all {ρ : Type} (n : Nat) (r : ρ) (L : Nat → Int → Option ρ) (h0 : Ev (fun k => L k (n : Int)) r) (h1 : ∀ i : Nat, i < n → Ev (fun k => L k ((i + 1 : Nat) : Int)) r → Ev (fun k => L k (i : Int)) r) : Ev (fun k => L k 0) r := by
  have key : ∀ (d i : Nat), i + d = n → Ev (fun k => L k (i : Int)) r := by
    intro d
    induction d with
    | zero =>
      intro i h
      obtain rfl : i = n := by omega
      exact h0
    | succ d ih =>
      intro i h
      exact h1 i (by omega) (ih (i + 1) (by omega))
  exact key n 0 (by omega)
theorem ev_find {α ρ : Type} (xs : List α) (p : α → Bool) (yes : Nat → ρ) (no : ρ) (L : Nat → Int → Option ρ) (h0 : Ev (fun k => L k (xs.length : Int)) no)
    (h1 : ∀ (i : Nat) (hi : i < xs.length) (r : ρ), (p xs[i] = true → r = yes i) → (p xs[i] = false → Ev (fun k => L k ((i + 1 : Nat) : Int)) r) → Ev (fun k => L k (i : Int)) r) :
    (∃ i, ∃ hi : i < xs.length, p xs[i] = true ∧ xs.any p = true ∧ Ev (fun k => L k 0) (yes i)) ∨ (xs.any p = false ∧ Ev (fun k => L k 0) no) := by
  have key : ∀ (d i : Nat), i + d = xs.length → (∃ j, ∃ hj : j < xs.length, p xs[j] = true ∧ Ev (fun k => L k (i : Int)) (yes j)) ∨ ((∀ j, ∀ hj : j < xs.length, i ≤ j → p xs[j] = false) ∧ Ev (fun k => L k (i : Int)) no) := by
    intro d
    induction d with
    | zero =>
      intro i h
      obtain rfl : i = xs.length := by omega
      exact .inr ⟨fun j hj h => by omega, h0⟩
    | succ d ih =>
      intro i h
      cases hp : p (xs[i]'(by omega)) with
      | true => exact .inl ⟨i, by omega, hp, h1 i (by omega) _ (fun _ => rfl) (fun hf => by rw [hp] at hf; cases hf)⟩
      | false =>
        rcases ih (i + 1) (by omega) with ⟨j, hj, h2, h3⟩ | ⟨h2, h3⟩
        · exact .inl ⟨j, hj, h2, h1 i (by omega) _ (fun hf => by rw [hp] at hf; cases hf) (fun _ => h3)⟩
        · refine .inr ⟨fun j hj hij => ?_, h1 i (by omega) _ (fun hf => by rw [hp] at hf; cases hf) (fun _ => h3)⟩
          rcases Nat.lt_or_ge i j with h4 | h4
          · exact h2 j hj h4
          · obtain rfl : i = j := by omega
            exact hp
  rcases key xs.length 0 (by omega) with ⟨j, hj, h2, h3⟩ | ⟨h2, h3⟩
  · exact .inl ⟨j, hj, h2, List.any_eq_true.2 ⟨xs[j], List.getElem_mem hj, h2⟩, h3⟩
  · refine .inr ⟨?_, h3⟩
    rw [List.any_eq_false]
    intro x hx
    obtain ⟨j, hj, rfl⟩ := List.getElem_of_mem hx
    rw [h2 j hj (by omega)]
    exact Bool.false_ne_true
theorem ev_any {α : Type} (xs : List α) (p : α → Bool) (L : Nat → Int → Option Bool) (h0 : Ev (fun k => L k (xs.length : Int)) false)
    (h1 : ∀ (i : Nat) (hi : i < xs.length) (r : Bool), (p xs[i] = true → r = true) → (p xs[i] = false → Ev (fun k => L k ((i + 1 : Nat) : Int)) r) → Ev (fun k => L k (i : Int)) r) :
    Ev (fun k => L k 0) (xs.any p) := by
  rcases ev_find xs p (fun _ => true) false L h0 h1 with ⟨i, hi, _, h2, h3⟩ | ⟨h2, h3⟩
  · rw [h2]; exact h3
  · rw [h2]; exact h3
theorem ev_idx {α : Type} (xs : List α) (p : α → Bool) (L : Nat → Int → Option Int) (h0 : Ev (fun k => L k (xs.length : Int)) (-1))
    (h1 : ∀ (i : Nat) (hi : i < xs.length) (r : Int), (p xs[i] = true → r = i) → (p xs[i] = false → Ev (fun k => L k ((i + 1 : Nat) : Int)) r) → Ev (fun k => L k (i : Int)) r) :
    ∃ r, Ev (fun k => L k 0) r ∧ decide (r ≥ 0) = xs.any p := by
  rcases ev_find xs p (fun i => (i : Int)) (-1) L h0 h1 with ⟨i, hi, _, h2, h3⟩ | ⟨h2, h3⟩
  · exact ⟨i, h3, by rw [h2]; simp⟩
  · exact ⟨-1, h3, by rw [h2]; rfl⟩
theorem set_step {α : Type} (zs xs : List α) (i : Nat) (hi : i < zs.length) (hx : xs.length = zs.length) : (zs.take i ++ xs.drop i).set i zs[i] = zs.take (i + 1) ++ xs.drop (i + 1) := by
  rw [List.set_append_right _ _ (by rw [List.length_take]; omega), List.length_take, Nat.min_eq_left (by omega), Nat.sub_self, List.drop_eq_getElem_cons (by omega : i < xs.length), List.set_cons_zero, ← List.take_append_getElem hi, List.append_assoc]
  rfl
/-- Marks from m on, w for each element. -/
def marks {α : Type} (T : Nat → α) (m w n : Nat) : List α := (List.range n).map fun j => T (m + w * j)
theorem marks_length {α : Type} (T : Nat → α) (m w n : Nat) : (marks T m w n).length = n := by simp [marks]
theorem marks_at {α : Type} (T : Nat → α) (m w n i : Nat) (h : i < (marks T m w n).length) : (marks T m w n)[i] = T (m + w * i) := by simp [marks]
theorem ev_markL {α : Type} (xs : List α) (T : Nat → α) (m w : Nat) (L : Nat → List α → Int → Int → Option (Int × List α)) (h0 : ∀ (ys : List α) (q : Nat), ys.length = xs.length → Ev (fun k => L k ys (q : Int) (xs.length : Int)) ((q : Int), ys))
    (h1 : ∀ (i : Nat) (ys : List α) (r : Int × List α), i < xs.length → ys.length = xs.length → Ev (fun k => L k (ys.set i (T (m + w * i))) ((m + w * (i + 1) : Nat) : Int) ((i + 1 : Nat) : Int)) r → Ev (fun k => L k ys ((m + w * i : Nat) : Int) (i : Int)) r) :
    Ev (fun k => L k xs (m : Int) 0) (((m + w * xs.length : Nat) : Int), marks T m w xs.length) := by
  have key : ∀ (d i : Nat), i + d = xs.length → Ev (fun k => L k ((marks T m w xs.length).take i ++ xs.drop i) ((m + w * i : Nat) : Int) (i : Int)) (((m + w * xs.length : Nat) : Int), marks T m w xs.length) := by
    intro d
    induction d with
    | zero =>
      intro i h
      obtain rfl : i = xs.length := by omega
      refine Ev.cast (h0 _ _ (by rw [List.length_append, List.length_take, List.length_drop, marks_length]; omega)) ?_
      rw [List.take_of_length_le (by rw [marks_length]; omega), List.drop_length, List.append_nil]
    | succ d ih =>
      intro i h
      have hi : i < (marks T m w xs.length).length := by rw [marks_length]; omega
      refine h1 i _ _ (by omega) (by rw [List.length_append, List.length_take, List.length_drop, marks_length]; omega) ?_
      rw [← marks_at T m w xs.length i hi, set_step _ _ _ hi (by rw [marks_length])]
      exact ih (i + 1) (by omega)
  have := key xs.length 0 (by omega)
  simpa using this
theorem ev_heldL (n m w : Nat) (L : Nat → Int → Int → Option Int) (h0 : ∀ q : Nat, Ev (fun k => L k (q : Int) (n : Int)) (q : Int))
    (h1 : ∀ (i : Nat) (r : Int), i < n → Ev (fun k => L k ((m + w * (i + 1) : Nat) : Int) ((i + 1 : Nat) : Int)) r → Ev (fun k => L k ((m + w * i : Nat) : Int) (i : Int)) r) :
    Ev (fun k => L k (m : Int) 0) ((m + w * n : Nat) : Int) := by
  have key : ∀ (d i : Nat), i + d = n → Ev (fun k => L k ((m + w * i : Nat) : Int) (i : Int)) ((m + w * n : Nat) : Int) := by
    intro d
    induction d with
    | zero =>
      intro i h
      obtain rfl : i = n := by omega
      exact h0 _
    | succ d ih =>
      intro i h
      exact h1 i _ (by omega) (ih (i + 1) (by omega))
  have := key n 0 (by omega)
  simpa using this
theorem ev_every (n : Nat) (p : Nat → Bool) (L : Nat → Int → Option Bool) (h0 : Ev (fun k => L k (n : Int)) true)
    (h1 : ∀ (i : Nat) (r : Bool), i < n → (p i = false → r = false) → (p i = true → Ev (fun k => L k ((i + 1 : Nat) : Int)) r) → Ev (fun k => L k (i : Int)) r) : Ev (fun k => L k 0) ((List.range n).all p) := by
  have key : ∀ (d i : Nat), i + d = n → Ev (fun k => L k (i : Int)) (((List.range n).drop i).all p) := by
    intro d
    induction d with
    | zero =>
      intro i h
      obtain rfl : i = n := by omega
      rw [List.drop_eq_nil_iff.2 (by simp)]
      exact h0
    | succ d ih =>
      intro i h
      have hi : i < (List.range n).length := by simp; omega
      rw [List.drop_eq_getElem_cons hi, List.all_cons, List.getElem_range]
      refine h1 i _ (by omega) (fun e => by rw [e]; rfl) (fun e => ?_)
      rw [e, Bool.true_and]
      exact ih (i + 1) (by omega)
  have := key n 0 (by omega)
  rwa [List.drop_zero] at this
end Go.Proofs.YtbenmnkkfimpcaaDoor.Pv
