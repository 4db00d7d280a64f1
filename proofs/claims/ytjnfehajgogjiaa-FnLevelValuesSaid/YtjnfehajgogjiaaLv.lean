/- Levels as trees: a text is a level just where it is the text of a tree; plain lists of numbers, no Go. No condition. -/
import Derived.Test.YtjnfehajgogjiaaWWords
namespace Go.Proofs.Ytjnfehajgogjiaa.Pv
set_option linter.unusedSimpArgs false
set_option linter.unusedVariables false
inductive Lv where
  | z
  | s (a : Lv)
  | m (a b : Lv)
  | i (a b : Lv)
  | u (k : Nat)
def Lv.ok : Lv → Prop
  | .z => True
  | .s a => a.ok
  | .m a b => a.ok ∧ b.ok
  | .i a b => a.ok ∧ b.ok
  | .u k => k < 3
def Lv.tx : Lv → List Int
  | .z => [122]
  | .s a => 43 :: a.tx
  | .m a b => 109 :: (a.tx ++ b.tx)
  | .i a b => 105 :: (a.tx ++ b.tx)
  | .u k => [117, 48 + (k : Int)]
def txs : List Lv → List Int
  | [] => []
  | t :: ts => t.tx ++ txs ts
/-- What is left of a text behind so many levels. -/
def scan : List Int → Nat → Option (List Int)
  | l, 0 => some l
  | [], _ + 1 => none
  | [c], n + 1 =>
    if c = 122 then scan [] n
    else if c = 43 then scan [] (n + 1)
    else if c = 109 ∨ c = 105 then scan [] (n + 2)
    else none
  | c :: d :: l, n + 1 =>
    if c = 122 then scan (d :: l) n
    else if c = 43 then scan (d :: l) (n + 1)
    else if c = 109 ∨ c = 105 then scan (d :: l) (n + 2)
    else if c = 117 then (if 48 ≤ d ∧ d ≤ 50 then scan l n else none)
    else none
theorem scan_zero (l : List Int) : scan l 0 = some l := by
  rcases l with _ | ⟨c, _ | ⟨d, l⟩⟩ <;> simp [scan]
theorem scan_nil (n : Nat) : scan [] (n + 1) = none := by
  simp [scan]
theorem scan_z (l : List Int) (n : Nat) : scan (122 :: l) (n + 1) = scan l n := by
  rcases l with _ | ⟨d, l⟩ <;> simp [scan]
theorem scan_s (l : List Int) (n : Nat) : scan (43 :: l) (n + 1) = scan l (n + 1) := by
  rcases l with _ | ⟨d, l⟩ <;> simp [scan]
theorem scan_mi (c : Int) (hc : c = 109 ∨ c = 105) (l : List Int) (n : Nat) : scan (c :: l) (n + 1) = scan l (n + 2) := by
  rcases l with _ | ⟨d, l⟩ <;> (simp only [scan]; rw [if_neg (by omega), if_neg (by omega), if_pos hc])
theorem scan_u (d : Int) (l : List Int) (n : Nat) : scan (117 :: d :: l) (n + 1) = if 48 ≤ d ∧ d ≤ 50 then scan l n else none := by
  simp only [scan]
  rw [if_neg (by omega), if_neg (by omega), if_neg (by omega)]
  simp
theorem scan_u0 (n : Nat) : scan [117] (n + 1) = none := by
  simp [scan]
theorem scan_other (c : Int) (l : List Int) (n : Nat) (h1 : c ≠ 122) (h2 : c ≠ 43) (h3 : c ≠ 109) (h4 : c ≠ 105) (h5 : c ≠ 117) : scan (c :: l) (n + 1) = none := by
  rcases l with _ | ⟨d, l⟩ <;> simp [scan, h1, h2, h3, h4, h5]
theorem scan_tx (t : Lv) : t.ok → ∀ (l : List Int) (n : Nat), scan (t.tx ++ l) (n + 1) = scan l n := by
  induction t with
  | z => intro _ l n; exact scan_z l n
  | s a ih =>
    intro h l n
    show scan (43 :: (a.tx ++ l)) (n + 1) = _
    rw [scan_s]
    exact ih h l n
  | m a b iha ihb =>
    intro h l n
    show scan (109 :: ((a.tx ++ b.tx) ++ l)) (n + 1) = _
    rw [scan_mi _ (.inl rfl), List.append_assoc, iha h.1, ihb h.2]
  | i a b iha ihb =>
    intro h l n
    show scan (105 :: ((a.tx ++ b.tx) ++ l)) (n + 1) = _
    rw [scan_mi _ (.inr rfl), List.append_assoc, iha h.1, ihb h.2]
  | u k =>
    intro h l n
    show scan (117 :: (48 + (k : Int)) :: l) (n + 1) = _
    have h3 : k < 3 := h
    rw [scan_u, if_pos (by omega)]
theorem scan_txs (ts : List Lv) (h : ∀ t ∈ ts, t.ok) (l : List Int) : scan (txs ts ++ l) ts.length = some l := by
  induction ts with
  | nil => exact scan_zero l
  | cons t ts ih =>
    show scan ((t.tx ++ txs ts) ++ l) (ts.length + 1) = _
    rw [List.append_assoc, scan_tx t (h t (by simp))]
    exact ih (fun u hu => h u (by simp [hu]))
theorem scan_inv : ∀ (m : Nat) (l : List Int) (n : Nat) (r : List Int), l.length ≤ m → scan l n = some r → ∃ ts : List Lv, ts.length = n ∧ (∀ t ∈ ts, t.ok) ∧ l = txs ts ++ r := by
  intro m
  induction m with
  | zero =>
    intro l n r hl h
    have hl0 : l = [] := List.length_eq_zero_iff.1 (by omega)
    subst hl0
    cases n with
    | zero =>
      rw [scan_zero] at h
      exact ⟨[], rfl, by simp, by simpa [txs] using h⟩
    | succ n => rw [scan_nil] at h; cases h
  | succ m ih =>
    intro l n r hl h
    cases n with
    | zero =>
      rw [scan_zero] at h
      exact ⟨[], rfl, by simp, by simpa [txs] using h⟩
    | succ n =>
      cases l with
      | nil => rw [scan_nil] at h; cases h
      | cons c l =>
        have hl' : l.length ≤ m := by simp at hl; omega
        by_cases h1 : c = 122
        · subst h1
          rw [scan_z] at h
          obtain ⟨ts, e, ho, rfl⟩ := ih l n r hl' h
          exact ⟨.z :: ts, by simp [e], by simpa [Lv.ok] using ho, rfl⟩
        by_cases h2 : c = 43
        · subst h2
          rw [scan_s] at h
          obtain ⟨ts, e, ho, rfl⟩ := ih l (n + 1) r hl' h
          cases ts with
          | nil => cases e
          | cons t ts =>
            refine ⟨.s t :: ts, by simpa using e, ?_, by simp [txs, Lv.tx]⟩
            intro u hu
            rcases List.mem_cons.1 hu with rfl | hu
            · exact ho t (by simp)
            · exact ho u (by simp [hu])
        by_cases h3 : c = 109 ∨ c = 105
        · rw [scan_mi c h3] at h
          obtain ⟨ts, e, ho, rfl⟩ := ih l (n + 2) r hl' h
          rcases ts with _ | ⟨t1, _ | ⟨t2, ts⟩⟩
          · cases e
          · simp at e
          · have k1 := ho t1 (by simp)
            have k2 := ho t2 (by simp)
            have k3 : ∀ t ∈ ts, t.ok := fun t ht => ho t (by simp [ht])
            rcases h3 with rfl | rfl
            · refine ⟨.m t1 t2 :: ts, by simpa using e, ?_, by simp [txs, Lv.tx]⟩
              intro u hu
              rcases List.mem_cons.1 hu with rfl | hu
              · exact ⟨k1, k2⟩
              · exact k3 u hu
            · refine ⟨.i t1 t2 :: ts, by simpa using e, ?_, by simp [txs, Lv.tx]⟩
              intro u hu
              rcases List.mem_cons.1 hu with rfl | hu
              · exact ⟨k1, k2⟩
              · exact k3 u hu
        by_cases h4 : c = 117
        · subst h4
          cases l with
          | nil => rw [scan_u0] at h; cases h
          | cons d l =>
            rw [scan_u] at h
            by_cases hd : 48 ≤ d ∧ d ≤ 50
            · rw [if_pos hd] at h
              obtain ⟨ts, e, ho, rfl⟩ := ih l n r (by simp at hl'; omega) h
              refine ⟨.u (d - 48).toNat :: ts, by simp [e], ?_, ?_⟩
              · intro u hu
                rcases List.mem_cons.1 hu with rfl | hu
                · show (d - 48).toNat < 3
                  omega
                · exact ho u hu
              · simp only [txs, Lv.tx, List.cons_append, List.nil_append]
                rw [show (48 + ((d - 48).toNat : Int)) = d from by omega]
            · rw [if_neg hd] at h; cases h
        · rw [scan_other c l n h1 h2 (by omega) (by omega) h4] at h; cases h
def lvOk (l : List Int) : Bool := decide (l.length ≤ 60 ∧ scan l 1 = some [])
theorem lvOk_tree {l : List Int} (h : lvOk l = true) : ∃ t : Lv, t.ok ∧ l = t.tx ∧ l.length ≤ 60 := by
  have h' := of_decide_eq_true h
  obtain ⟨ts, e, ho, hl⟩ := scan_inv l.length l 1 [] (Nat.le_refl _) h'.2
  rcases ts with _ | ⟨t, _ | ⟨t2, ts⟩⟩
  · cases e
  · exact ⟨t, ho t (by simp), by simpa [txs] using hl, h'.1⟩
  · simp at e
theorem lvOk_of {t : Lv} (ho : t.ok) (hl : t.tx.length ≤ 60) : lvOk t.tx = true := by
  refine decide_eq_true ⟨hl, ?_⟩
  have := scan_tx t ho [] 0
  rwa [List.append_nil, scan_zero] at this
end Go.Proofs.Ytjnfehajgogjiaa.Pv
