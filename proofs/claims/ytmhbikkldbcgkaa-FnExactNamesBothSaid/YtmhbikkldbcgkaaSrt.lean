/- Lists that rise strictly: one list for each set of members; sorting by insertion; merging without repetition; leaving out repetitions of a sorted list. No condition. -/
import Derived.Test.YtmhbikkldbcgkaaEv
namespace Go.Proofs.Ytmhbikkldbcgkaa.Pv
set_option linter.unusedSimpArgs false
set_option linter.unusedVariables false
section
variable {α : Type} {lt : α → α → Bool}
structure SO (lt : α → α → Bool) : Prop where
  irr : ∀ x, lt x x = false
  tr : ∀ x y z, lt x y = true → lt y z = true → lt x z = true
  tot : ∀ x y, lt x y = false → lt y x = false → x = y
abbrev Rises (lt : α → α → Bool) (l : List α) : Prop := l.Pairwise fun x y => lt x y = true
theorem SO.ne (h : SO lt) {x y : α} (hx : lt x y = true) : x ≠ y := fun e => by
  rw [e, h.irr] at hx
  cases hx
theorem SO.asym (h : SO lt) {x y : α} (hx : lt x y = true) : lt y x = false := by
  cases hy : lt y x with
  | false => rfl
  | true => exact absurd rfl (h.ne (h.tr _ _ _ hx hy))
theorem rises_one (h : SO lt) : ∀ {l m : List α}, Rises lt l → Rises lt m → (∀ x, x ∈ l ↔ x ∈ m) → l = m := by
  intro l
  induction l with
  | nil =>
    intro m _ _ e
    cases m with
    | nil => rfl
    | cons y m => exact absurd ((e y).2 (List.mem_cons_self ..)) (by simp)
  | cons x l ih =>
    intro m hl hm e
    cases m with
    | nil => exact absurd ((e x).1 (List.mem_cons_self ..)) (by simp)
    | cons y m =>
      have hl' := List.pairwise_cons.1 hl
      have hm' := List.pairwise_cons.1 hm
      have hxy : x = y := by
        rcases List.mem_cons.1 ((e x).1 (List.mem_cons_self ..)) with h1 | h1
        · exact h1
        · rcases List.mem_cons.1 ((e y).2 (List.mem_cons_self ..)) with h2 | h2
          · exact h2.symm
          · exact absurd (h.asym (hm'.1 _ h1)) (by rw [hl'.1 _ h2]; simp)
      subst hxy
      rw [ih hl'.2 hm'.2 fun z => ⟨fun hz => ?_, fun hz => ?_⟩]
      · rcases List.mem_cons.1 ((e z).1 (List.mem_cons_of_mem _ hz)) with h1 | h1
        · exact absurd h1.symm (h.ne (hl'.1 _ hz))
        · exact h1
      · rcases List.mem_cons.1 ((e z).2 (List.mem_cons_of_mem _ hz)) with h1 | h1
        · exact absurd h1.symm (h.ne (hm'.1 _ hz))
        · exact h1
/-- One element laid into a list that rises. -/
def insD (lt : α → α → Bool) (x : α) : List α → List α
  | [] => [x]
  | y :: l => if lt x y = true then x :: y :: l else if lt y x = true then y :: insD lt x l else y :: l
def srtD (lt : α → α → Bool) (l : List α) : List α := l.foldr (insD lt) []
theorem insD_mem (h : SO lt) (x z : α) : ∀ l : List α, z ∈ insD lt x l ↔ z = x ∨ z ∈ l := by
  intro l
  induction l with
  | nil => simp [insD]
  | cons y l ih =>
    unfold insD
    split
    · simp
    · split
      · simp only [List.mem_cons, ih]
        constructor
        · rintro (a | a | a) <;> simp [a]
        · rintro (a | a | a) <;> simp [a]
      · rename_i h1 h2
        have e := h.tot x y (by simpa using h1) (by simpa using h2)
        subst e
        simp
theorem insD_rises (h : SO lt) (x : α) : ∀ l : List α, Rises lt l → Rises lt (insD lt x l) := by
  intro l
  induction l with
  | nil => intro _; simp [insD, Rises]
  | cons y l ih =>
    intro hl
    have hl' := List.pairwise_cons.1 hl
    unfold insD
    split
    · rename_i h1
      refine List.pairwise_cons.2 ⟨fun z hz => ?_, hl⟩
      rcases List.mem_cons.1 hz with rfl | hz
      · exact h1
      · exact h.tr _ _ _ h1 (hl'.1 _ hz)
    · split
      · rename_i h1
        refine List.pairwise_cons.2 ⟨fun z hz => ?_, ih hl'.2⟩
        rcases (insD_mem h x z l).1 hz with rfl | hz
        · exact h1
        · exact hl'.1 _ hz
      · exact hl
theorem srtD_mem (h : SO lt) (z : α) : ∀ l : List α, z ∈ srtD lt l ↔ z ∈ l := by
  intro l
  induction l with
  | nil => simp [srtD]
  | cons x l ih =>
    show z ∈ insD lt x (srtD lt l) ↔ _
    rw [insD_mem h, ih, List.mem_cons]
theorem srtD_rises (h : SO lt) : ∀ l : List α, Rises lt (srtD lt l) := by
  intro l
  induction l with
  | nil => simp [srtD, Rises]
  | cons x l ih => exact insD_rises h x _ ih
theorem srtD_eq (h : SO lt) {l m : List α} (hm : Rises lt m) (e : ∀ x, x ∈ m ↔ x ∈ l) : m = srtD lt l :=
  rises_one h hm (srtD_rises h l) fun x => (e x).trans (srtD_mem h x l).symm
theorem srtD_congr (h : SO lt) {l m : List α} (e : ∀ x, x ∈ l ↔ x ∈ m) : srtD lt l = srtD lt m :=
  srtD_eq h (srtD_rises h l) fun x => (srtD_mem h x l).trans (e x)
theorem srtD_of_rises (h : SO lt) {l : List α} (hl : Rises lt l) : srtD lt l = l := (srtD_eq h hl fun _ => Iff.rfl).symm
theorem insD_len (x : α) : ∀ l : List α, (insD lt x l).length ≤ l.length + 1 := by
  intro l
  induction l with
  | nil => simp [insD]
  | cons y l ih =>
    unfold insD
    split
    · simp
    · split
      · simp only [List.length_cons]
        omega
      · simp only [List.length_cons]
        omega
theorem srtD_len : ∀ l : List α, (srtD lt l).length ≤ l.length := by
  intro l
  induction l with
  | nil => simp [srtD]
  | cons x l ih =>
    have := insD_len (lt := lt) x (srtD lt l)
    show (insD lt x (srtD lt l)).length ≤ _
    simp only [List.length_cons]
    omega
/-- What a merge without repetition keeps up: what was put out rises, and nothing that is still to come lies ahead of any of it. -/
structure Mrg (lt : α → α → Bool) (out a b : List α) : Prop where
  ro : Rises lt out
  ra : Rises lt a
  rb : Rises lt b
  oa : ∀ o ∈ out, ∀ x ∈ a, lt x o = false
  ob : ∀ o ∈ out, ∀ x ∈ b, lt x o = false
theorem Mrg.start {a b : List α} (ha : Rises lt a) (hb : Rises lt b) : Mrg lt [] a b := ⟨List.Pairwise.nil, ha, hb, by simp, by simp⟩
theorem Mrg.put (h : SO lt) {out a b : List α} {x : α} (m : Mrg lt out (x :: a) b) (hx : ∀ y ∈ b, lt y x = false) (hne : ∀ o, out.getLast? = some o → o ≠ x) : Mrg lt (out ++ [x]) a b := by
  have ha := List.pairwise_cons.1 m.ra
  refine ⟨?_, ha.2, m.rb, ?_, ?_⟩
  · refine List.pairwise_append.2 ⟨m.ro, by simp, fun o ho z hz => ?_⟩
    obtain rfl : z = x := by simpa using hz
    cases hoz : lt o z with
    | true => rfl
    | false =>
      have e := h.tot o z hoz (m.oa o ho z (List.mem_cons_self ..))
      subst e
      exfalso
      obtain ⟨l, q, e⟩ := List.append_of_mem ho
      have hq : q = [] := by
        cases q with
        | nil => rfl
        | cons y q =>
          exfalso
          have hz := m.ro
          rw [e] at hz
          have h1 : lt o y = true := (List.pairwise_cons.1 (List.pairwise_append.1 hz).2.1).1 y (List.mem_cons_self ..)
          rw [m.oa y (by rw [e]; simp) o (List.mem_cons_self ..)] at h1
          cases h1
      exact hne o (by rw [e, hq]; simp) rfl
  · intro o ho z hz
    rcases List.mem_append.1 ho with ho | ho
    · exact m.oa o ho z (List.mem_cons_of_mem _ hz)
    · obtain rfl : o = x := by simpa using ho
      exact h.asym (ha.1 z hz)
  · intro o ho z hz
    rcases List.mem_append.1 ho with ho | ho
    · exact m.ob o ho z hz
    · obtain rfl : o = x := by simpa using ho
      exact hx z hz
theorem Mrg.skip {out a b : List α} {x : α} (m : Mrg lt out (x :: a) b) : Mrg lt out a b :=
  ⟨m.ro, (List.pairwise_cons.1 m.ra).2, m.rb, fun o ho z hz => m.oa o ho z (List.mem_cons_of_mem _ hz), m.ob⟩
theorem Mrg.swap {out a b : List α} (m : Mrg lt out a b) : Mrg lt out b a := ⟨m.ro, m.rb, m.ra, m.ob, m.oa⟩
/-- Leaving out what is equal to what stands ahead of it. -/
theorem compact_rises (h : SO lt) (l : List α) (n : Nat) (get : Nat → α) (keep : Nat → Bool) (hget : l = (List.range n).map get) (hl : ∀ i j, i < j → j < n → lt (get j) (get i) = false)
    (hk : ∀ j, j < n → (keep j = true ↔ j = 0 ∨ get j ≠ get (j - 1))) : ((List.range n).filter keep).map get = srtD lt l := by
  refine srtD_eq h ?_ fun x => ?_
  · refine List.pairwise_map.2 ?_
    have hr : ((List.range n).filter keep).Pairwise (· < ·) := List.Pairwise.filter _ List.pairwise_lt_range
    refine (List.Pairwise.and_mem.1 hr).imp ?_
    rintro i j ⟨hi, hj, hij⟩
    obtain ⟨hj, kj⟩ := List.mem_filter.1 hj
    have hj := List.mem_range.1 hj
    rcases (hk j hj).1 kj with h0 | h0
    · omega
    cases hq : lt (get i) (get j) with
    | true => rfl
    | false =>
      exfalso
      have e := h.tot _ _ hq (hl i j hij hj)
      refine h0 (h.tot _ _ (hl (j - 1) j (by omega) hj) ?_)
      by_cases hji : i = j - 1
      · rw [← hji]
        exact hq
      · rw [← e]
        exact hl i (j - 1) (by omega) (by omega)
  · rw [hget]
    constructor
    · intro hx
      obtain ⟨i, hi, rfl⟩ := List.mem_map.1 hx
      exact List.mem_map.2 ⟨i, (List.mem_filter.1 hi).1, rfl⟩
    · intro hx
      obtain ⟨i, hi, rfl⟩ := List.mem_map.1 hx
      have hi := List.mem_range.1 hi
      have key : ∀ m, ∀ i, i ≤ m → i < n → get i ∈ ((List.range n).filter keep).map get := by
        intro m
        induction m with
        | zero =>
          intro i h0 hi
          obtain rfl : i = 0 := by omega
          exact List.mem_map.2 ⟨0, List.mem_filter.2 ⟨List.mem_range.2 hi, (hk 0 hi).2 (.inl rfl)⟩, rfl⟩
        | succ m ih =>
          intro i h0 hi
          by_cases he : i ≤ m
          · exact ih i he hi
          by_cases hq : keep i = true
          · exact List.mem_map.2 ⟨i, List.mem_filter.2 ⟨List.mem_range.2 hi, hq⟩, rfl⟩
          · have hne : ¬ (i = 0 ∨ get i ≠ get (i - 1)) := fun e => hq ((hk i hi).2 e)
            have e : get i = get (i - 1) := Classical.byContradiction fun e => hne (.inr e)
            rw [e]
            exact ih (i - 1) (by omega) (by omega)
      exact key i i (Nat.le_refl _) hi
end
end Go.Proofs.Ytmhbikkldbcgkaa.Pv
