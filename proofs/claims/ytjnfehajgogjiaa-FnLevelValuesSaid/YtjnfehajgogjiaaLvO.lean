/- A witness is found whenever there is one: if one level is above another at some values, it is so at values out of 0, 1 and a great number; plain lists of numbers, no Go. No condition. -/
import Derived.Test.YtjnfehajgogjiaaLv2
namespace Go.Proofs.Ytjnfehajgogjiaa.Pv
set_option linter.unusedSimpArgs false
set_option linter.unusedVariables false
/-- The same values are zero. -/
def Same0 (v w : List Int) : Prop := ∀ k, v.getD k 0 = 0 ↔ w.getD k 0 = 0
def Nn (v : List Int) : Prop := ∀ k, 0 ≤ v.getD k 0
theorem val_nn {v : List Int} (hv : Nn v) (t : Lv) : 0 ≤ t.val v := by
  induction t with
  | z => exact Int.le_refl _
  | s a ih => simp only [Lv.val]; omega
  | m a b iha ihb => simp only [Lv.val]; omega
  | i a b iha ihb => simp only [Lv.val]; split <;> omega
  | u k => exact hv k
theorem val_zero {v w : List Int} (hv : Nn v) (hw : Nn w) (h : Same0 v w) (t : Lv) : t.val v = 0 ↔ t.val w = 0 := by
  induction t with
  | z => exact Iff.rfl
  | s a ih =>
    have h1 := val_nn hv a
    have h2 := val_nn hw a
    simp only [Lv.val]
    omega
  | m a b iha ihb =>
    have h1 := val_nn hv a
    have h2 := val_nn hw a
    have h3 := val_nn hv b
    have h4 := val_nn hw b
    simp only [Lv.val]
    omega
  | i a b iha ihb =>
    have h1 := val_nn hv a
    have h2 := val_nn hw a
    have h3 := val_nn hv b
    have h4 := val_nn hw b
    simp only [Lv.val]
    by_cases hb : b.val v = 0
    · rw [if_pos hb, if_pos (ihb.1 hb)]
    · have hb' : ¬ b.val w = 0 := fun e => hb (ihb.2 e)
      rw [if_neg hb, if_neg hb']
      omega
  | u k => exact h k
theorem val_mono {v w : List Int} (hv : Nn v) (hw : Nn w) (h : Same0 v w) (hle : ∀ k, w.getD k 0 ≤ v.getD k 0) (t : Lv) : t.val w ≤ t.val v := by
  induction t with
  | z => exact Int.le_refl _
  | s a ih => simp only [Lv.val]; omega
  | m a b iha ihb => simp only [Lv.val]; omega
  | i a b iha ihb =>
    simp only [Lv.val]
    have hz := val_zero hv hw h b
    by_cases hb : b.val v = 0
    · rw [if_pos hb, if_pos (hz.1 hb)]
      exact Int.le_refl _
    · rw [if_neg hb, if_neg (fun e => hb (hz.2 e))]
      omega
  | u k => exact hle k
/-- What stays below the one great value. -/
theorem val_below {v w : List Int} (hv : Nn v) (hw : Nn w) (h : Same0 v w) (i : Nat) (M : Int) (hi : w.getD i 0 = M) (hi1 : 1 ≤ v.getD i 0) (hone : ∀ k, k ≠ i → w.getD k 0 ≤ 1) (t : Lv) :
    ∀ c : Int, c + M ≥ t.ups + 2 → t.val v < c + v.getD i 0 → t.val w < c + M := by
  induction t with
  | z => intro c hc _; simp only [Lv.val, Lv.ups] at hc ⊢; omega
  | s a ih =>
    intro c hc hl
    simp only [Lv.val, Lv.ups] at hc hl ⊢
    have := ih (c - 1) (by omega) (by omega)
    omega
  | m a b iha ihb =>
    intro c hc hl
    simp only [Lv.val, Lv.ups] at hc hl ⊢
    have h1 := iha c (by omega) (by omega)
    have h2 := ihb c (by omega) (by omega)
    omega
  | i a b iha ihb =>
    intro c hc hl
    simp only [Lv.val, Lv.ups] at hc hl ⊢
    have hz := val_zero hv hw h b
    by_cases hb : b.val v = 0
    · rw [if_pos (hz.1 hb)]
      omega
    · rw [if_neg hb] at hl
      rw [if_neg (fun e => hb (hz.2 e))]
      have h1 := iha c (by omega) (by omega)
      have h2 := ihb c (by omega) (by omega)
      omega
  | u k =>
    intro c hc hl
    simp only [Lv.val, Lv.ups] at hc hl ⊢
    by_cases hk : k = i
    · subst hk
      omega
    · have := hone k hk
      omega
/-- What makes a level's value: a constant, or one value and a constant. -/
def Term (v : List Int) (t : Lv) : Prop :=
  (∀ w, Nn w → Same0 v w → t.val v ≤ t.val w) ∨ ∃ (i : Nat) (c : Int), 1 ≤ v.getD i 0 ∧ 0 ≤ c ∧ t.val v = v.getD i 0 + c ∧ ∀ w, Nn w → Same0 v w → w.getD i 0 + c ≤ t.val w
theorem term (v : List Int) (hv : Nn v) (t : Lv) : Term v t := by
  induction t with
  | z => exact .inl fun w _ _ => Int.le_refl _
  | s a ih =>
    rcases ih with h | ⟨i, c, h1, h2, h3, h4⟩
    · refine .inl fun w hw hs => ?_
      have := h w hw hs
      simp only [Lv.val]
      omega
    · refine .inr ⟨i, c + 1, h1, by omega, by simp only [Lv.val]; omega, fun w hw hs => ?_⟩
      have := h4 w hw hs
      simp only [Lv.val]
      omega
  | m a b iha ihb =>
    by_cases hab : b.val v ≤ a.val v
    · rcases iha with h | ⟨i, c, h1, h2, h3, h4⟩
      · refine .inl fun w hw hs => ?_
        have := h w hw hs
        simp only [Lv.val]
        omega
      · refine .inr ⟨i, c, h1, h2, by simp only [Lv.val]; omega, fun w hw hs => ?_⟩
        have := h4 w hw hs
        simp only [Lv.val]
        omega
    · rcases ihb with h | ⟨i, c, h1, h2, h3, h4⟩
      · refine .inl fun w hw hs => ?_
        have := h w hw hs
        simp only [Lv.val]
        omega
      · refine .inr ⟨i, c, h1, h2, by simp only [Lv.val]; omega, fun w hw hs => ?_⟩
        have := h4 w hw hs
        simp only [Lv.val]
        omega
  | i a b iha ihb =>
    by_cases hb : b.val v = 0
    · refine .inl fun w hw hs => ?_
      have := val_nn hw (.i a b)
      simp only [Lv.val] at this ⊢
      rw [if_pos hb]
      exact this
    · have hbw : ∀ w, Nn w → Same0 v w → ¬ b.val w = 0 := fun w hw hs e => hb ((val_zero hv hw hs b).2 e)
      by_cases hab : b.val v ≤ a.val v
      · rcases iha with h | ⟨i, c, h1, h2, h3, h4⟩
        · refine .inl fun w hw hs => ?_
          have := h w hw hs
          simp only [Lv.val]
          rw [if_neg hb, if_neg (hbw w hw hs)]
          omega
        · refine .inr ⟨i, c, h1, h2, by simp only [Lv.val]; rw [if_neg hb]; omega, fun w hw hs => ?_⟩
          have := h4 w hw hs
          simp only [Lv.val]
          rw [if_neg (hbw w hw hs)]
          omega
      · rcases ihb with h | ⟨i, c, h1, h2, h3, h4⟩
        · refine .inl fun w hw hs => ?_
          have := h w hw hs
          simp only [Lv.val]
          rw [if_neg hb, if_neg (hbw w hw hs)]
          omega
        · refine .inr ⟨i, c, h1, h2, by simp only [Lv.val]; rw [if_neg hb]; omega, fun w hw hs => ?_⟩
          have := h4 w hw hs
          simp only [Lv.val]
          rw [if_neg (hbw w hw hs)]
          omega
  | u k =>
    by_cases hk : v.getD k 0 = 0
    · refine .inl fun w hw hs => ?_
      have := hw k
      simp only [Lv.val]
      omega
    · have := hv k
      exact .inr ⟨k, 0, by omega, Int.le_refl _, by simp [Lv.val], fun w hw hs => by simp [Lv.val]⟩
/-- One of 0, 1 and M. -/
def pt (i j : Nat) (x M : Int) : Int := if x = 0 then 0 else if j = i then M else 1
theorem getD3 (x y z : Int) (k : Nat) : [x, y, z].getD k 0 = if k = 0 then x else if k = 1 then y else if k = 2 then z else 0 := by
  match k with
  | 0 => rfl
  | 1 => rfl
  | 2 => rfl
  | k + 3 => simp
theorem nn3 {x y z : Int} (hx : 0 ≤ x) (hy : 0 ≤ y) (hz : 0 ≤ z) : Nn [x, y, z] := by
  intro k
  rw [getD3]
  repeat (first | split | omega)
theorem nn3_of {x y z : Int} (h : Nn [x, y, z]) : 0 ≤ x ∧ 0 ≤ y ∧ 0 ≤ z := ⟨h 0, h 1, h 2⟩
theorem witness_whole (a b : Lv) (x y z : Int) (hx : 0 ≤ x) (hy : 0 ≤ y) (hz : 0 ≤ z) (M : Int) (hM : M ≥ b.ups + 2) (h : a.val [x, y, z] > b.val [x, y, z]) :
    ∃ x' y' z' : Int, (x' = 0 ∨ x' = 1 ∨ x' = M) ∧ (y' = 0 ∨ y' = 1 ∨ y' = M) ∧ (z' = 0 ∨ z' = 1 ∨ z' = M) ∧ a.val [x', y', z'] > b.val [x', y', z'] := by
  have hv := nn3 hx hy hz
  have grid : ∀ i j (u : Int), pt i j u M = 0 ∨ pt i j u M = 1 ∨ pt i j u M = M := by
    intro i j u
    unfold pt
    repeat (first | split | simp)
  have hM0 : 0 < M := by omega
  have hw : ∀ i, Nn [pt i 0 x M, pt i 1 y M, pt i 2 z M] := by
    intro i
    refine nn3 ?_ ?_ ?_ <;> (unfold pt; repeat (first | split | omega))
  have hs : ∀ i, Same0 [x, y, z] [pt i 0 x M, pt i 1 y M, pt i 2 z M] := by
    intro i k
    rw [getD3, getD3]
    unfold pt
    repeat (first | split | omega)
  rcases term [x, y, z] hv a with hc | ⟨i, c, h1, h2, h3, h4⟩
  · refine ⟨pt 3 0 x M, pt 3 1 y M, pt 3 2 z M, grid _ _ _, grid _ _ _, grid _ _ _, ?_⟩
    have h5 := hc _ (hw 3) (hs 3)
    have h6 := val_mono hv (hw 3) (hs 3) (fun k => by
      rw [getD3, getD3]
      unfold pt
      repeat (first | split | omega)) b
    omega
  · refine ⟨pt i 0 x M, pt i 1 y M, pt i 2 z M, grid _ _ _, grid _ _ _, grid _ _ _, ?_⟩
    have h5 := h4 _ (hw i) (hs i)
    have hi : [pt i 0 x M, pt i 1 y M, pt i 2 z M].getD i 0 = M := by
      rw [getD3] at h1 ⊢
      unfold pt
      repeat (first | split at h1 | omega)
      all_goals simp_all
      all_goals omega
    have h6 := val_below hv (hw i) (hs i) i M hi h1 (fun k hk => by
      rw [getD3]
      unfold pt
      repeat (first | split | omega)) b c (by omega) (by omega)
    rw [hi] at h5
    omega
end Go.Proofs.Ytjnfehajgogjiaa.Pv
