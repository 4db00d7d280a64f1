/- Levels as trees: parameters, '+' signs, values, putting in; plain lists of numbers, no Go. No condition. -/
import Derived.Test.YtjnfehajgogjiaaLv
namespace Go.Proofs.Ytjnfehajgogjiaa.Pv
set_option linter.unusedSimpArgs false
set_option linter.unusedVariables false
def Lv.params : Lv → Nat
  | .z => 0
  | .s a => a.params
  | .m a b => max a.params b.params
  | .i a b => max a.params b.params
  | .u k => k + 1
def Lv.has (k : Nat) : Lv → Prop
  | .z => False
  | .s a => a.has k
  | .m a b => a.has k ∨ b.has k
  | .i a b => a.has k ∨ b.has k
  | .u j => j = k
def Lv.ups : Lv → Nat
  | .z => 0
  | .s a => a.ups + 1
  | .m a b => a.ups + b.ups
  | .i a b => a.ups + b.ups
  | .u _ => 0
def Lv.val (v : List Int) : Lv → Int
  | .z => 0
  | .s a => a.val v + 1
  | .m a b => max (a.val v) (b.val v)
  | .i a b => if b.val v = 0 then 0 else max (a.val v) (b.val v)
  | .u k => v.getD k 0
def Lv.put (ts : List Lv) : Lv → Lv
  | .z => .z
  | .s a => .s (a.put ts)
  | .m a b => .m (a.put ts) (b.put ts)
  | .i a b => .i (a.put ts) (b.put ts)
  | .u k => ts.getD k .z
theorem params_le (t : Lv) (h : t.ok) : t.params ≤ 3 := by
  induction t with
  | z => exact Nat.zero_le _
  | s a ih => exact ih h
  | m a b iha ihb => exact Nat.max_le.2 ⟨iha h.1, ihb h.2⟩
  | i a b iha ihb => exact Nat.max_le.2 ⟨iha h.1, ihb h.2⟩
  | u k => exact h
theorem has_params (t : Lv) (k : Nat) (h : t.has k) : k + 1 ≤ t.params := by
  induction t with
  | z => exact h.elim
  | s a ih => exact ih h
  | m a b iha ihb =>
    simp only [Lv.params]
    rcases h with h | h
    · have := iha h
      omega
    · have := ihb h
      omega
  | i a b iha ihb =>
    simp only [Lv.params]
    rcases h with h | h
    · have := iha h
      omega
    · have := ihb h
      omega
  | u j =>
    have : j = k := h
    subst this
    exact Nat.le_refl _
theorem params_has (t : Lv) (n : Nat) (h : t.params = n + 1) : t.has n := by
  induction t with
  | z => cases h
  | s a ih => exact ih h
  | m a b iha ihb =>
    simp only [Lv.params] at h
    by_cases c : a.params = n + 1
    · exact .inl (iha c)
    · exact .inr (ihb (by omega))
  | i a b iha ihb =>
    simp only [Lv.params] at h
    by_cases c : a.params = n + 1
    · exact .inl (iha c)
    · exact .inr (ihb (by omega))
  | u j =>
    show j = n
    simp only [Lv.params] at h
    omega
theorem digit_mem (t : Lv) (h : t.ok) (k : Nat) (hk : k < 3) : (48 + (k : Int)) ∈ t.tx ↔ t.has k := by
  induction t with
  | z =>
    simp only [Lv.tx, Lv.has, List.mem_singleton, iff_false]
    omega
  | s a ih =>
    simp only [Lv.tx, Lv.has, List.mem_cons]
    rw [ih h]
    constructor
    · rintro (h1 | h1)
      · omega
      · exact h1
    · exact .inr
  | m a b iha ihb =>
    simp only [Lv.tx, Lv.has, List.mem_cons, List.mem_append]
    rw [iha h.1, ihb h.2]
    constructor
    · rintro (h1 | h1)
      · omega
      · exact h1
    · exact .inr
  | i a b iha ihb =>
    simp only [Lv.tx, Lv.has, List.mem_cons, List.mem_append]
    rw [iha h.1, ihb h.2]
    constructor
    · rintro (h1 | h1)
      · omega
      · exact h1
    · exact .inr
  | u j =>
    simp only [Lv.tx, Lv.has, List.mem_cons, List.not_mem_nil, or_false]
    omega
theorem params_digits (t : Lv) (h : t.ok) : (t.params : Int) = if (50 : Int) ∈ t.tx then 3 else if (49 : Int) ∈ t.tx then 2 else if (48 : Int) ∈ t.tx then 1 else 0 := by
  have d0 := digit_mem t h 0 (by omega)
  have d1 := digit_mem t h 1 (by omega)
  have d2 := digit_mem t h 2 (by omega)
  have hle := params_le t h
  rw [show (48 : Int) = 48 + ((0 : Nat) : Int) from rfl, show (49 : Int) = 48 + ((1 : Nat) : Int) from rfl, show (50 : Int) = 48 + ((2 : Nat) : Int) from rfl]
  have up : ∀ n, n < 3 → ¬ t.has n → t.params ≠ n + 1 := fun n _ hn e => hn (params_has t n e)
  by_cases h2 : t.has 2
  · rw [if_pos (d2.2 h2)]
    have := has_params t 2 h2
    omega
  rw [if_neg (fun e => h2 (d2.1 e))]
  by_cases h1 : t.has 1
  · rw [if_pos (d1.2 h1)]
    have := has_params t 1 h1
    have := up 2 (by omega) h2
    omega
  rw [if_neg (fun e => h1 (d1.1 e))]
  by_cases h0 : t.has 0
  · rw [if_pos (d0.2 h0)]
    have := has_params t 0 h0
    have := up 2 (by omega) h2
    have := up 1 (by omega) h1
    omega
  rw [if_neg (fun e => h0 (d0.1 e))]
  have := up 2 (by omega) h2
  have := up 1 (by omega) h1
  have := up 0 (by omega) h0
  omega
/-- The reference's way to the parameters: the greatest digit behind a 'u'. -/
def plf : List Int → Int → Int
  | [], n => n
  | [_], n => n
  | c :: d :: l, n => plf (d :: l) (if c = 117 ∧ d - 47 > n then d - 47 else n)
theorem plf_other (c : Int) (hc : c ≠ 117) (l : List Int) (n : Int) : plf (c :: l) n = plf l n := by
  cases l with
  | nil => simp [plf]
  | cons d l =>
    simp only [plf]
    rw [if_neg (fun h => hc h.1)]
theorem plf_tx (t : Lv) (h : t.ok) : ∀ (l : List Int) (n : Int), 0 ≤ n → plf (t.tx ++ l) n = plf l (max n t.params) := by
  induction t with
  | z =>
    intro l n hn
    show plf (122 :: l) n = _
    rw [plf_other _ (by omega)]
    simp only [Lv.params]
    rw [show max n ((0 : Nat) : Int) = n from by omega]
  | s a ih =>
    intro l n hn
    show plf (43 :: (a.tx ++ l)) n = _
    rw [plf_other _ (by omega)]
    exact ih h l n hn
  | m a b iha ihb =>
    intro l n hn
    show plf (109 :: ((a.tx ++ b.tx) ++ l)) n = _
    rw [plf_other _ (by omega), List.append_assoc, iha h.1 _ _ hn, ihb h.2 _ _ (by omega)]
    simp only [Lv.params]
    congr 1
    omega
  | i a b iha ihb =>
    intro l n hn
    show plf (105 :: ((a.tx ++ b.tx) ++ l)) n = _
    rw [plf_other _ (by omega), List.append_assoc, iha h.1 _ _ hn, ihb h.2 _ _ (by omega)]
    simp only [Lv.params]
    congr 1
    omega
  | u k =>
    intro l n hn
    show plf (117 :: (48 + (k : Int)) :: l) n = _
    simp only [plf]
    have hk : k < 3 := h
    rw [plf_other _ (by omega)]
    simp only [Lv.params]
    congr 1
    by_cases hc : (48 + (k : Int)) - 47 > n
    · rw [if_pos ⟨trivial, hc⟩]
      omega
    · rw [if_neg (fun e => hc e.2)]
      omega
theorem plf_text (t : Lv) (h : t.ok) : plf t.tx 0 = t.params := by
  have := plf_tx t h [] 0 (by omega)
  rw [List.append_nil] at this
  rw [this]
  simp only [plf]
  omega
theorem count_tx (t : Lv) (h : t.ok) : t.tx.count 43 = t.ups := by
  induction t with
  | z => rfl
  | s a ih => simp only [Lv.tx, Lv.ups, List.count_cons, ih h]; rfl
  | m a b iha ihb => simp only [Lv.tx, Lv.ups, List.count_cons, List.count_append, iha h.1, ihb h.2]; rfl
  | i a b iha ihb => simp only [Lv.tx, Lv.ups, List.count_cons, List.count_append, iha h.1, ihb h.2]; rfl
  | u k =>
    have hk : k < 3 := h
    simp only [Lv.tx, Lv.ups, List.count_cons, List.count_nil]
    rw [if_neg (by simp; omega), if_neg (by simp)]
theorem tx_ne (t : Lv) : t.tx ≠ [] := by
  cases t <;> simp [Lv.tx]
theorem tx_pos (t : Lv) : 0 < t.tx.length := List.length_pos_iff.2 (tx_ne t)
/-- A level's text does not end in a 'u'. -/
theorem last_tx (t : Lv) (h : t.ok) : ∀ l, t.tx ≠ l ++ [117] := by
  induction t with
  | z =>
    intro l e
    cases l with
    | nil => simp [Lv.tx] at e
    | cons c l => simp [Lv.tx] at e
  | s a ih =>
    intro l e
    cases l with
    | nil => simp [Lv.tx] at e
    | cons c l =>
      simp only [Lv.tx, List.cons_append, List.cons.injEq] at e
      exact ih h l e.2
  | m a b iha ihb =>
    intro l e
    have hb := tx_ne b
    obtain ⟨l', e'⟩ : ∃ l', b.tx = l' ++ [117] := by
      refine ⟨b.tx.dropLast, ?_⟩
      have h1 := List.dropLast_concat_getLast hb
      have h2 : b.tx.getLast hb = 117 := by
        have e2 : (109 :: (a.tx ++ b.tx)).getLast (by simp) = (l ++ [117]).getLast (by simp) := by
          congr 1
        rw [List.getLast_cons (by simp [hb]), List.getLast_append_of_ne_nil _ hb] at e2
        simpa using e2
      rw [h2] at h1
      exact h1.symm
    exact ihb h.2 l' e'
  | i a b iha ihb =>
    intro l e
    have hb := tx_ne b
    obtain ⟨l', e'⟩ : ∃ l', b.tx = l' ++ [117] := by
      refine ⟨b.tx.dropLast, ?_⟩
      have h1 := List.dropLast_concat_getLast hb
      have h2 : b.tx.getLast hb = 117 := by
        have e2 : (105 :: (a.tx ++ b.tx)).getLast (by simp) = (l ++ [117]).getLast (by simp) := by
          congr 1
        rw [List.getLast_cons (by simp [hb]), List.getLast_append_of_ne_nil _ hb] at e2
        simpa using e2
      rw [h2] at h1
      exact h1.symm
    exact ihb h.2 l' e'
  | u k =>
    intro l e
    have hk : k < 3 := h
    rcases l with _ | ⟨c, _ | ⟨d, l⟩⟩
    · simp [Lv.tx] at e
    · simp [Lv.tx] at e
      omega
    · simp [Lv.tx] at e
theorem ups_le (t : Lv) : t.ups ≤ t.tx.length := by
  induction t with
  | z => simp [Lv.ups]
  | s a ih => simp only [Lv.ups, Lv.tx, List.length_cons]; omega
  | m a b iha ihb => simp only [Lv.ups, Lv.tx, List.length_cons, List.length_append]; omega
  | i a b iha ihb => simp only [Lv.ups, Lv.tx, List.length_cons, List.length_append]; omega
  | u k => simp [Lv.ups]
theorem val_bounds (v : List Int) (B : Int) (hB : 0 ≤ B) (hv : ∀ x ∈ v, 0 ≤ x ∧ x ≤ B) (t : Lv) : 0 ≤ t.val v ∧ t.val v ≤ B + t.ups := by
  induction t with
  | z => simp only [Lv.val, Lv.ups]; omega
  | s a ih => simp only [Lv.val, Lv.ups]; omega
  | m a b iha ihb => simp only [Lv.val, Lv.ups]; omega
  | i a b iha ihb =>
    simp only [Lv.val, Lv.ups]
    split <;> omega
  | u k =>
    simp only [Lv.val, Lv.ups]
    rw [List.getD_eq_getElem?_getD]
    cases e : v[k]? with
    | none => simp; omega
    | some x =>
      have := hv x (List.mem_of_getElem? e)
      simp
      omega
theorem put_ok (ts : List Lv) (hts : ∀ t ∈ ts, t.ok) (t : Lv) : (t.put ts).ok := by
  induction t with
  | z => trivial
  | s a ih => exact ih
  | m a b iha ihb => exact ⟨iha, ihb⟩
  | i a b iha ihb => exact ⟨iha, ihb⟩
  | u k =>
    show (ts.getD k .z).ok
    rw [List.getD_eq_getElem?_getD]
    cases e : ts[k]? with
    | none => trivial
    | some x => exact hts x (List.mem_of_getElem? e)
theorem put_val (ts : List Lv) (v : List Int) (t : Lv) : (t.put ts).val v = t.val (ts.map (Lv.val v)) := by
  induction t with
  | z => rfl
  | s a ih => simp only [Lv.put, Lv.val, ih]
  | m a b iha ihb => simp only [Lv.put, Lv.val, iha, ihb]
  | i a b iha ihb => simp only [Lv.put, Lv.val, iha, ihb]
  | u k =>
    simp only [Lv.put, Lv.val]
    rw [List.getD_eq_getElem?_getD, List.getD_eq_getElem?_getD, List.getElem?_map]
    cases ts[k]? <;> rfl
end Go.Proofs.Ytjnfehajgogjiaa.Pv
