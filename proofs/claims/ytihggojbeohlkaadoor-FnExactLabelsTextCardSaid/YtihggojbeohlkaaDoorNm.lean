/- Names: texts cut at a sign and joined again; plain lists of numbers, no Go. No condition. -/
import Derived.Test.YtihggojbeohlkaaDoorWWords
namespace Go.Proofs.YtihggojbeohlkaaDoor.Pv
set_option linter.unusedSimpArgs false
set_option linter.unusedVariables false
/-- A text's parts between the signs c. -/
def cutL (c : Int) : List Int → List (List Int)
  | [] => [[]]
  | x :: l => if x = c then [] :: cutL c l else
    match cutL c l with
    | [] => [[x]]
    | p :: ps => (x :: p) :: ps
def joinL (c : Int) : List (List Int) → List Int
  | [] => []
  | [p] => p
  | p :: q :: ps => p ++ c :: joinL c (q :: ps)
theorem cutL_ne (c : Int) (l : List Int) : cutL c l ≠ [] := by
  cases l with
  | nil => simp [cutL]
  | cons x l =>
    simp only [cutL]
    split
    · simp
    · split <;> simp
/-- What stands ahead of a text's first part. -/
def ahead (p : List Int) : List (List Int) → List (List Int)
  | [] => [p]
  | q :: qs => (p ++ q) :: qs
theorem ahead_nil {ps : List (List Int)} (h : ps ≠ []) : ahead [] ps = ps := by
  cases ps with
  | nil => exact absurd rfl h
  | cons q qs => rfl
theorem cutL_other (c x : Int) (l : List Int) (h : x ≠ c) : cutL c (x :: l) = ahead [x] (cutL c l) := by
  simp only [cutL]
  rw [if_neg h]
  cases e : cutL c l with
  | nil => rfl
  | cons p ps => rfl
theorem ahead_ahead (p q : List Int) (ps : List (List Int)) (h : ps ≠ []) : ahead p (ahead q ps) = ahead (p ++ q) ps := by
  cases ps with
  | nil => exact absurd rfl h
  | cons r rs => simp [ahead]
theorem cutL_here (c : Int) (l : List Int) : cutL c (c :: l) = [] :: cutL c l := by
  simp [cutL]
theorem cutL_free (c : Int) (p l : List Int) (h : c ∉ p) : cutL c (p ++ l) = ahead p (cutL c l) := by
  induction p with
  | nil => exact (ahead_nil (cutL_ne c l)).symm
  | cons x p ih =>
    rw [List.cons_append, cutL_other c x _ (fun e => h (by simp [e])), ih (fun hm => h (by simp [hm])), ahead_ahead _ _ _ (cutL_ne c l)]
    rfl
theorem cutL_first (c : Int) (p l : List Int) (h : c ∉ p) : cutL c (p ++ c :: l) = p :: cutL c l := by
  rw [cutL_free c p _ h, cutL_here]
  simp [ahead]
theorem cutL_none (c : Int) (p : List Int) (h : c ∉ p) : cutL c p = [p] := by
  have := cutL_free c p [] h
  rw [List.append_nil] at this
  rw [this]
  simp [cutL, ahead]
theorem cutL_length (c : Int) (l : List Int) : (cutL c l).length = l.count c + 1 := by
  induction l with
  | nil => rfl
  | cons x l ih =>
    by_cases h : x = c
    · subst h
      rw [cutL_here, List.length_cons, ih, List.count_cons_self]
    · rw [cutL_other c x l h, List.count_cons_of_ne h]
      cases e : cutL c l with
      | nil => exact absurd e (cutL_ne c l)
      | cons p ps =>
        rw [e] at ih
        simpa [ahead] using ih
theorem joinL_ahead (c : Int) (p : List Int) (ps : List (List Int)) (h : ps ≠ []) : joinL c (ahead p ps) = p ++ joinL c ps := by
  rcases ps with _ | ⟨q, _ | ⟨r, rs⟩⟩
  · exact absurd rfl h
  · rfl
  · simp [ahead, joinL]
theorem join_cut (c : Int) (l : List Int) : joinL c (cutL c l) = l := by
  induction l with
  | nil => rfl
  | cons x l ih =>
    by_cases h : x = c
    · subst h
      rw [cutL_here]
      cases e : cutL x l with
      | nil => exact absurd e (cutL_ne x l)
      | cons p ps =>
        rw [e] at ih
        simp only [joinL, List.nil_append, ih]
    · rw [cutL_other c x l h, joinL_ahead c _ _ (cutL_ne c l), ih]
      rfl
theorem cutL_append (c : Int) (p m : List Int) : cutL c (p ++ c :: m) = cutL c p ++ cutL c m := by
  induction p with
  | nil => rw [List.nil_append, cutL_here]; rfl
  | cons x p ih =>
    by_cases h : x = c
    · subst h
      rw [List.cons_append, cutL_here, cutL_here, ih]
      rfl
    · rw [List.cons_append, cutL_other c x _ h, cutL_other c x _ h, ih]
      cases e : cutL c p with
      | nil => exact absurd e (cutL_ne c p)
      | cons q qs => rfl
theorem join_append (c : Int) (ps qs : List (List Int)) (hp : ps ≠ []) (hq : qs ≠ []) : joinL c (ps ++ qs) = joinL c ps ++ c :: joinL c qs := by
  induction ps with
  | nil => exact absurd rfl hp
  | cons p ps ih =>
    cases ps with
    | nil =>
      cases qs with
      | nil => exact absurd rfl hq
      | cons q qs => rfl
    | cons p2 ps =>
      have := ih (by simp)
      simp only [List.cons_append] at this ⊢
      simp only [joinL]
      rw [this]
      simp
/-- One text's parts begin another's just where it is the other, or stands ahead of the sign in it. -/
theorem cut_prefix (c : Int) (p n : List Int) : cutL c p <+: cutL c n ↔ p = n ∨ (p ++ [c]) <+: n := by
  constructor
  · rintro ⟨r, hr⟩
    cases r with
    | nil =>
      left
      rw [List.append_nil] at hr
      rw [← join_cut c p, ← join_cut c n, hr]
    | cons q qs =>
      right
      refine ⟨joinL c (q :: qs), ?_⟩
      have := congrArg (joinL c) hr
      rw [join_append c _ _ (cutL_ne c p) (by simp), join_cut, join_cut] at this
      rw [List.append_assoc]
      exact this
  · rintro (rfl | ⟨r, rfl⟩)
    · exact List.prefix_refl _
    · rw [List.append_assoc]
      exact ⟨cutL c r, (cutL_append c p r).symm⟩
def isLow (x : Int) : Bool := decide (97 ≤ x ∧ x ≤ 122)
def isDig (x : Int) : Bool := decide (48 ≤ x ∧ x ≤ 57)
/-- A part of a name. -/
def partOk : List Int → Bool
  | [] => false
  | x :: l => isLow x && (x :: l).all fun y => isLow y || isDig y
def nameOk (l : List Int) : Bool := decide (l.length ≤ 40) && (decide ((cutL 46 l).length ≤ 5) && (cutL 46 l).all partOk)
end Go.Proofs.YtihggojbeohlkaaDoor.Pv
