/- The law FnRules answers true at every input: the plain laws and the proof, folded into one text (wip/tools/fold.py). No condition. -/
import Derived.Test.YtckdocofmffheaaDoorEv
import Derived.Test.YtckdocofmffheaaDoorQ3
import Derived.Test.YtckdocofmffheaaDoorWWords
import Derived.Test.YtckdocofmffheaaDoorSl
import Derived.Test.YtckdocofmffheaaDoorQ4
import Derived.Test.YtckdocofmffheaaDoorQ5
import Derived.Test.YtckdocofmffheaaDoorQ0
import Derived.Test.YtckdocofmffheaaDoorQ6
import Derived.Test.YtckdocofmffheaaDoorQ7
import Derived.Test.YtckdocofmffheaaDoorQ8
import Derived.Test.YtckdocofmffheaaDoorQ2
import Derived.Test.YtckdocofmffheaaDoorQ9
import Derived.ChangeArms
import Derived.DataReads
import Derived.ChangeOld
import Derived.SizedLaws
import Derived.KernelRfl
import Derived.Test.YtckdocofmffheaaDoorQ10
/- The kinds of labels: 1 to 5, by both tests. No condition. -/
namespace Go.Proofs.YtckdocofmffheaaDoor.Pv
set_option linter.unusedSimpArgs false
set_option linter.unusedVariables false
open Go.RowKit Go.Proofs.YtckdocofmffheaaDoor.Q Go.Proofs.YtckdocofmffheaaDoorW.PrintWords Go.Proofs.YtckdocofmffheaaDoorW.PrintLast Go.Proofs.YtckdocofmffheaaDoorW.PrintMore
theorem in15 (n : Int) : impl_in.f n 1 5 = some (decide (1 ≤ n ∧ n ≤ 5)) := by
  unfold impl_in.f
  by_cases h : 1 ≤ n
  · rw [if_pos h]
    congr 1
    rw [decide_eq_decide]
    omega
  · rw [if_neg h, decide_eq_false (by omega)]
theorem isKind_eq (n : Int) : impl_isLabelKind.f n = some (decide (1 ≤ n ∧ n ≤ 5)) := by
  unfold impl_isLabelKind.f
  rw [in15]
  rfl
end Go.Proofs.YtckdocofmffheaaDoor.Pv
/- Bytes of texts: what is joined, what is made of numbers, when two texts are one. No condition. -/
namespace Go.Proofs.YtckdocofmffheaaDoor.Pv
set_option linter.unusedSimpArgs false
set_option linter.unusedVariables false
open Go.RowKit Go.Proofs.YtckdocofmffheaaDoorW.PrintWords Go.Proofs.YtckdocofmffheaaDoorW.PrintLast Go.Proofs.YtckdocofmffheaaDoorW.PrintMore
theorem bl_append (a b : ByteArray) : bytesOf (a ++ b) = bytesOf a ++ bytesOf b := by
  unfold bytesOf
  rw [show (a ++ b).data = a.data ++ b.data from ByteArray.data_append, Array.toList_append, List.map_append]
theorem bl_inj {a b : ByteArray} (h : bytesOf a = bytesOf b) : a = b := by
  unfold bytesOf at h
  have h2 : a.data.toList = b.data.toList := by
    refine List.map_inj_right (f := fun b : UInt8 => (b.toNat : Int)) (fun x y e => ?_) |>.1 h
    exact UInt8.toNat_inj.1 (by exact_mod_cast e)
  cases a
  cases b
  simp only at h2
  rw [Array.toList_inj.1 h2]
theorem bl_nums {l : List Int} (h : ∀ x ∈ l, 0 ≤ x ∧ x ≤ 255) : bytesOf (strOfNums l) = l := by
  unfold bytesOf
  rw [strOfNums_data, List.map_map]
  refine (List.map_congr_left (g := id) (fun x hx => ?_)).trans (List.map_id l)
  have := h x hx
  show ((UInt8.ofNat x.toNat).toNat : Int) = x
  rw [UInt8.toNat_ofNat']
  omega
theorem bl_range (s : ByteArray) : ∀ x ∈ bytesOf s, 0 ≤ x ∧ x ≤ 255 := by
  intro x hx
  unfold bytesOf at hx
  obtain ⟨b, _, rfl⟩ := List.mem_map.1 hx
  have := b.toNat_lt
  omega
theorem nums_bl (s : ByteArray) : strOfNums (bytesOf s) = s := bl_inj (bl_nums (bl_range s))
theorem size_append (a b : ByteArray) : (a ++ b).size = a.size + b.size := ByteArray.size_append
theorem bl_toList {a b : ByteArray} (h : bytesOf a = bytesOf b) : a.toList = b.toList := by rw [bl_inj h]
theorem and255 (x : Int) : 0 ≤ Go.bits .and .i64 x 255 ∧ Go.bits .and .i64 x 255 ≤ 255 := by
  have h : (BitVec.ofInt 64 x &&& BitVec.ofInt 64 255).toNat ≤ 255 := by
    rw [BitVec.toNat_and]
    exact Nat.le_trans Nat.and_le_right (by decide)
  have e : Go.bits .and .i64 x 255 = (((BitVec.ofInt 64 x &&& BitVec.ofInt 64 255).toNat : Nat) : Int) := by
    unfold Go.bits
    show IntKind.i64.wrap (((BitVec.ofInt 64 x &&& BitVec.ofInt 64 255).toNat : Nat) : Int) = _
    rw [IntKind.wrap_i64]
    omega
  rw [e]
  omega
end Go.Proofs.YtckdocofmffheaaDoor.Pv
/- Names: texts cut at a sign and joined again; plain lists of numbers, no Go. No condition. -/
namespace Go.Proofs.YtckdocofmffheaaDoor.Pv
set_option linter.unusedSimpArgs false
set_option linter.unusedVariables false
/-- A text's parts between the signs c. -/
def cutL (c : Int) : List Int → List (List Int)
  | [] => [[]]
  | x :: l => if x = c then [] :: cutL c l else
    match cutL c l with
    | [] => [[x]]
    | p :: ps => (x :: p) :: ps
def joinL (c : Int) : List (List Int) → List Int
  | [] => []
  | [p] => p
  | p :: q :: ps => p ++ c :: joinL c (q :: ps)
theorem cutL_ne (c : Int) (l : List Int) : cutL c l ≠ [] := by
  cases l with
  | nil => simp [cutL]
  | cons x l =>
    simp only [cutL]
    split
    · simp
    · split <;> simp
/-- What stands ahead of a text's first part. -/
def ahead (p : List Int) : List (List Int) → List (List Int)
  | [] => [p]
  | q :: qs => (p ++ q) :: qs
theorem ahead_nil {ps : List (List Int)} (h : ps ≠ []) : ahead [] ps = ps := by
  cases ps with
  | nil => exact absurd rfl h
  | cons q qs => rfl
theorem cutL_other (c x : Int) (l : List Int) (h : x ≠ c) : cutL c (x :: l) = ahead [x] (cutL c l) := by
  simp only [cutL]
  rw [if_neg h]
  cases e : cutL c l with
  | nil => rfl
  | cons p ps => rfl
theorem ahead_ahead (p q : List Int) (ps : List (List Int)) (h : ps ≠ []) : ahead p (ahead q ps) = ahead (p ++ q) ps := by
  cases ps with
  | nil => exact absurd rfl h
  | cons r rs => simp [ahead]
theorem cutL_here (c : Int) (l : List Int) : cutL c (c :: l) = [] :: cutL c l := by
  simp [cutL]
theorem cutL_free (c : Int) (p l : List Int) (h : c ∉ p) : cutL c (p ++ l) = ahead p (cutL c l) := by
  induction p with
  | nil => exact (ahead_nil (cutL_ne c l)).symm
  | cons x p ih =>
    rw [List.cons_append, cutL_other c x _ (fun e => h (by simp [e])), ih (fun hm => h (by simp [hm])), ahead_ahead _ _ _ (cutL_ne c l)]
    rfl
theorem cutL_first (c : Int) (p l : List Int) (h : c ∉ p) : cutL c (p ++ c :: l) = p :: cutL c l := by
  rw [cutL_free c p _ h, cutL_here]
  simp [ahead]
theorem cutL_none (c : Int) (p : List Int) (h : c ∉ p) : cutL c p = [p] := by
  have := cutL_free c p [] h
  rw [List.append_nil] at this
  rw [this]
  simp [cutL, ahead]
theorem cutL_length (c : Int) (l : List Int) : (cutL c l).length = l.count c + 1 := by
  induction l with
  | nil => rfl
  | cons x l ih =>
    by_cases h : x = c
    · subst h
      rw [cutL_here, List.length_cons, ih, List.count_cons_self]
    · rw [cutL_other c x l h, List.count_cons_of_ne h]
      cases e : cutL c l with
      | nil => exact absurd e (cutL_ne c l)
      | cons p ps =>
        rw [e] at ih
        simpa [ahead] using ih
theorem joinL_ahead (c : Int) (p : List Int) (ps : List (List Int)) (h : ps ≠ []) : joinL c (ahead p ps) = p ++ joinL c ps := by
  rcases ps with _ | ⟨q, _ | ⟨r, rs⟩⟩
  · exact absurd rfl h
  · rfl
  · simp [ahead, joinL]
theorem join_cut (c : Int) (l : List Int) : joinL c (cutL c l) = l := by
  induction l with
  | nil => rfl
  | cons x l ih =>
    by_cases h : x = c
    · subst h
      rw [cutL_here]
      cases e : cutL x l with
      | nil => exact absurd e (cutL_ne x l)
      | cons p ps =>
        rw [e] at ih
        simp only [joinL, List.nil_append, ih]
    · rw [cutL_other c x l h, joinL_ahead c _ _ (cutL_ne c l), ih]
      rfl
theorem cutL_append (c : Int) (p m : List Int) : cutL c (p ++ c :: m) = cutL c p ++ cutL c m := by
  induction p with
  | nil => rw [List.nil_append, cutL_here]; rfl
  | cons x p ih =>
    by_cases h : x = c
    · subst h
      rw [List.cons_append, cutL_here, cutL_here, ih]
      rfl
    · rw [List.cons_append, cutL_other c x _ h, cutL_other c x _ h, ih]
      cases e : cutL c p with
      | nil => exact absurd e (cutL_ne c p)
      | cons q qs => rfl
theorem join_append (c : Int) (ps qs : List (List Int)) (hp : ps ≠ []) (hq : qs ≠ []) : joinL c (ps ++ qs) = joinL c ps ++ c :: joinL c qs := by
  induction ps with
  | nil => exact absurd rfl hp
  | cons p ps ih =>
    cases ps with
    | nil =>
      cases qs with
      | nil => exact absurd rfl hq
      | cons q qs => rfl
    | cons p2 ps =>
      have := ih (by simp)
      simp only [List.cons_append] at this ⊢
      simp only [joinL]
      rw [this]
      simp
/-- One text's parts begin another's just where it is the other, or stands ahead of the sign in it. -/
theorem cut_prefix (c : Int) (p n : List Int) : cutL c p <+: cutL c n ↔ p = n ∨ (p ++ [c]) <+: n := by
  constructor
  · rintro ⟨r, hr⟩
    cases r with
    | nil =>
      left
      rw [List.append_nil] at hr
      rw [← join_cut c p, ← join_cut c n, hr]
    | cons q qs =>
      right
      refine ⟨joinL c (q :: qs), ?_⟩
      have := congrArg (joinL c) hr
      rw [join_append c _ _ (cutL_ne c p) (by simp), join_cut, join_cut] at this
      rw [List.append_assoc]
      exact this
  · rintro (rfl | ⟨r, rfl⟩)
    · exact List.prefix_refl _
    · rw [List.append_assoc]
      exact ⟨cutL c r, (cutL_append c p r).symm⟩
def isLow (x : Int) : Bool := decide (97 ≤ x ∧ x ≤ 122)
def isDig (x : Int) : Bool := decide (48 ≤ x ∧ x ≤ 57)
/-- A part of a name. -/
def partOk : List Int → Bool
  | [] => false
  | x :: l => isLow x && (x :: l).all fun y => isLow y || isDig y
def nameOk (l : List Int) : Bool := decide (l.length ≤ 40) && (decide ((cutL 46 l).length ≤ 5) && (cutL 46 l).all partOk)
end Go.Proofs.YtckdocofmffheaaDoor.Pv
/- What the Go functions on names come to: strings.Split at '.', the reference's cut, NameOk. No condition beyond the sizes. -/
namespace Go.Proofs.YtckdocofmffheaaDoor.Pv
set_option linter.unusedSimpArgs false
set_option linter.unusedVariables false
open Go.RowKit Go.Proofs.YtckdocofmffheaaDoor.Q Go.Proofs.YtckdocofmffheaaDoorW.PrintWords Go.Proofs.YtckdocofmffheaaDoorW.PrintLast Go.Proofs.YtckdocofmffheaaDoorW.PrintMore
theorem idx_spec (l : List UInt8) (c : UInt8) : (Lib.indexByte l c = -1 ∧ c ∉ l) ∨ ∃ m : Nat, Lib.indexByte l c = (m : Int) ∧ m < l.length ∧ l = l.take m ++ c :: l.drop (m + 1) ∧ c ∉ l.take m := by
  induction l with
  | nil => exact .inl ⟨rfl, by simp⟩
  | cons b l ih =>
    by_cases h : b = c
    · subst h
      refine .inr ⟨0, ?_, by simp, by simp, by simp⟩
      simp [Lib.indexByte]
    · rcases ih with ⟨h1, h2⟩ | ⟨m, h1, h2, h3, h4⟩
      · refine .inl ⟨?_, ?_⟩
        · unfold Lib.indexByte
          rw [if_neg (by simpa using h), if_pos (by simpa using h1)]
        · simp only [List.mem_cons, not_or]
          exact ⟨fun e => h e.symm, h2⟩
      · refine .inr ⟨m + 1, ?_, by simpa using h2, ?_, ?_⟩
        · unfold Lib.indexByte
          rw [if_neg (by simpa using h), h1, if_neg (fun e => by have := beq_iff_eq.1 e; omega)]
          rfl
        · simpa using h3
        · simp only [List.take_succ_cons, List.mem_cons, not_or]
          exact ⟨fun e => h e.symm, h4⟩
theorem idx_bytes (s : ByteArray) (c : UInt8) : (Lib.indexByte s.data.toList c = -1 ∧ ((c.toNat : Nat) : Int) ∉ bytesOf s) ∨
    ∃ m : Nat, Lib.indexByte s.data.toList c = (m : Int) ∧ m < s.size ∧ bytesOf s = (bytesOf s).take m ++ ((c.toNat : Nat) : Int) :: (bytesOf s).drop (m + 1) ∧ ((c.toNat : Nat) : Int) ∉ (bytesOf s).take m := by
  have inj : ∀ l : List UInt8, ((c.toNat : Nat) : Int) ∈ l.map (fun b => ((b.toNat : Nat) : Int)) → c ∈ l := by
    intro l h
    obtain ⟨b, hb, e⟩ := List.mem_map.1 h
    have : b = c := UInt8.toNat_inj.1 (by exact_mod_cast e)
    exact this ▸ hb
  rcases idx_spec s.data.toList c with ⟨h1, h2⟩ | ⟨m, h1, h2, h3, h4⟩
  · exact .inl ⟨h1, fun h => h2 (inj _ h)⟩
  · refine .inr ⟨m, h1, by rw [Array.length_toList] at h2; exact h2, ?_, ?_⟩
    · unfold bytesOf
      rw [← List.map_take, ← List.map_drop]
      conv => lhs; rw [h3]
      simp
    · unfold bytesOf
      rw [← List.map_take]
      exact fun h => h4 (inj _ h)
theorem bl_extract (s : ByteArray) (a b : Nat) : bytesOf (s.extract a b) = ((bytesOf s).drop a).take (b - a) := by
  unfold bytesOf
  rw [Lib.extract_data, List.map_take, List.map_drop]
theorem toList_nil (s : ByteArray) : s.toList = [] ↔ bytesOf s = [] := by
  rw [ByteArray.toList_eq]
  unfold bytesOf
  rw [List.map_eq_nil_iff]
theorem take_set_succ {α : Type} (l : List α) (i : Nat) (x : α) (h : i < l.length) : (l.set i x).take (i + 1) = l.take i ++ [x] := by
  rw [List.take_succ_eq_append_getElem (by simpa using h), List.take_set_of_le (Nat.le_refl i)]
  simp
theorem countByte_bytes (s : ByteArray) (c : UInt8) : Lib.countByte s.data.toList c = (bytesOf s).count ((c.toNat : Nat) : Int) := by
  unfold bytesOf Lib.countByte
  generalize s.data.toList = l
  induction l with
  | nil => rfl
  | cons b l ih =>
    rw [List.map_cons, List.count_cons, List.count_cons, ih]
    have hb : (b == c) = (((b.toNat : Nat) : Int) == ((c.toNat : Nat) : Int)) := by
      rw [Bool.eq_iff_iff, beq_iff_eq, beq_iff_eq]
      constructor
      · rintro rfl
        rfl
      · intro h
        exact UInt8.toNat_inj.1 (by exact_mod_cast h)
    rw [hb]
theorem splitB_cut (c : UInt8) : ∀ (d : Nat) (s : ByteArray), (bytesOf s).count ((c.toNat : Nat) : Int) = d → (Lib.splitB ⟨#[c]⟩ 0 d s).map bytesOf = cutL ((c.toNat : Nat) : Int) (bytesOf s) := by
  intro d
  induction d with
  | zero =>
    intro s hd
    rw [Lib.splitB_zero, cutL_none _ _ (List.count_eq_zero.1 hd)]
    rfl
  | succ d ih =>
    intro s hd
    have hm : ((c.toNat : Nat) : Int) ∈ bytesOf s := List.count_pos_iff.1 (by omega)
    rcases idx_bytes s c with ⟨_, h2⟩ | ⟨m, h1, h2, h3, h4⟩
    · exact absurd hm h2
    have hc : ((bytesOf s).drop (m + 1)).count ((c.toNat : Nat) : Int) = d := by
      rw [h3, List.count_append, List.count_cons_self, List.count_eq_zero.2 h4] at hd
      omega
    have hb2 : bytesOf (s.extract (m + 1) s.size) = (bytesOf s).drop (m + 1) := by
      rw [bl_extract, List.take_of_length_le (by rw [List.length_drop, bl_length]; omega)]
    have hi : Lib.indexB s ⟨#[c]⟩ = (m : Int) := (Lib.index_one s.data.toList c).trans h1
    rw [Lib.splitB_hit ⟨#[c]⟩ 0 d s m hi, List.map_cons]
    have e := ih (s.extract (m + 1) s.size) (by rw [hb2]; exact hc)
    have e2 : (Lib.splitB ⟨#[c]⟩ 0 d (s.extract (m + (⟨#[c]⟩ : ByteArray).size) s.size)).map bytesOf = cutL ((c.toNat : Nat) : Int) (bytesOf (s.extract (m + 1) s.size)) := e
    rw [e2, hb2, bl_extract, List.drop_zero, Nat.sub_zero]
    conv => rhs; rw [h3, cutL_first _ _ _ h4]
    rfl
theorem split_any (c : UInt8) (s : ByteArray) (hs : s.size ≤ 4294967000) : ∃ r, strings_Split.f s ⟨#[c]⟩ = some r ∧ r.map bytesOf = cutL ((c.toNat : Nat) : Int) (bytesOf s) := by
  have hcount : Lib.countB s ⟨#[c]⟩ = (bytesOf s).count ((c.toNat : Nat) : Int) := (Lib.count_one c s.data.toList).trans (countByte_bytes s c)
  have hcl : (bytesOf s).count ((c.toNat : Nat) : Int) ≤ s.size := by
    rw [← bl_length]
    exact List.count_le_length
  refine ⟨Lib.splitB ⟨#[c]⟩ 0 ((bytesOf s).count ((c.toNat : Nat) : Int)) s, ?_, splitB_cut c _ s rfl⟩
  unfold strings_Split.f
  have e : strings_genSplit.f s ⟨#[c]⟩ 0 (-1) = some (Lib.splitB ⟨#[c]⟩ 0 ((bytesOf s).count ((c.toNat : Nat) : Int)) s) := by
    show (if (0 : Int) = 0 ∧ (-1 : Int) = -1 ∧ s.size < 4294967281 then some (Lib.splitB ⟨#[c]⟩ 0 (min (Lib.countB s ⟨#[c]⟩ + 1) (s.size + 1) - 1) s) else none) = _
    rw [if_pos ⟨rfl, rfl, by omega⟩, hcount, show min ((bytesOf s).count ((c.toNat : Nat) : Int) + 1) (s.size + 1) - 1 = (bytesOf s).count ((c.toNat : Nat) : Int) from by omega]
  rw [e]
  rfl
theorem split_dot (s : ByteArray) (hs : s.size ≤ 4294967000) : ∃ r, strings_Split.f s ⟨#[46]⟩ = some r ∧ r.map bytesOf = cutL 46 (bytesOf s) := split_any 46 s hs
/-! parts of names -/
theorem low_dig_ok (x : Int) : (isLow x || isDig x) = true ↔ (97 ≤ x ∧ x ≤ 122) ∨ (48 ≤ x ∧ x ≤ 57) := by
  unfold isLow isDig
  simp
theorem part_impl_l0 (s : ByteArray) (hs : s.size ≤ 140737488351232) : ∀ (d i : Nat), i + d = s.size → Ev (fun k => impl_isNamePart.l0 k s (s.size : Int) (i : Int)) (((bytesOf s).drop i).all fun y => isLow y || isDig y) := by
  intro d
  induction d with
  | zero =>
    intro i h
    refine Ev.succ ?_
    simp only [impl_isNamePart.l0]
    refine Ev.neg (by omega) (Ev.val ?_)
    have : (bytesOf s).drop i = [] := by rw [List.drop_eq_nil_iff, bl_length]; omega
    rw [this]
    rfl
  | succ d ih =>
    intro i h
    have hi : i < s.size := by omega
    refine Ev.succ ?_
    simp only [impl_isNamePart.l0]
    refine Ev.pos (by omega) (Ev.pos (by omega) (Ev.pos (by omega) ?_))
    rw [wS i (by omega), bl_drop s i hi, List.all_cons]
    have yes : (isLow (bt s (i : Int)) || isDig (bt s (i : Int))) = true → Ev (fun k => impl_isNamePart.l0 k s (s.size : Int) ((i + 1 : Nat) : Int)) ((isLow (bt s (i : Int)) || isDig (bt s (i : Int))) && ((bytesOf s).drop (i + 1)).all fun y => isLow y || isDig y) := by
      intro hy
      rw [hy, Bool.true_and]
      exact ih (i + 1) (by omega)
    have no : ¬ ((97 ≤ bt s (i : Int) ∧ bt s (i : Int) ≤ 122) ∨ (48 ≤ bt s (i : Int) ∧ bt s (i : Int) ≤ 57)) → Ev (fun _ : Nat => some false) ((isLow (bt s (i : Int)) || isDig (bt s (i : Int))) && ((bytesOf s).drop (i + 1)).all fun y => isLow y || isDig y) := by
      intro hn
      have : (isLow (bt s (i : Int)) || isDig (bt s (i : Int))) = false := by
        rw [Bool.eq_false_iff]
        exact fun e => hn ((low_dig_ok _).1 e)
      rw [this]
      exact Ev.val rfl
    refine Ev.ite (fun h1 => Ev.ite (fun h2 => no (by omega)) (fun h2 => Ev.ite (fun h3 => no (by omega)) (fun h3 => yes ((low_dig_ok _).2 (by omega))))) (fun h1 => Ev.ite (fun h2 => Ev.ite (fun h3 => no (by omega)) (fun h3 => Ev.ite (fun h4 => no (by omega)) (fun h4 => yes ((low_dig_ok _).2 (by omega))))) (fun h2 => yes ((low_dig_ok _).2 (by omega))))
theorem partOk_at (s : ByteArray) (h : 0 < s.size) : partOk (bytesOf s) = (isLow (bt s 0) && (bytesOf s).all fun y => isLow y || isDig y) := by
  have e := bl_drop s 0 h
  rw [List.drop_zero] at e
  rw [e]
  rfl
theorem ev_isNamePart (s : ByteArray) (hs : s.size ≤ 140737488351232) : Ev (fun k => impl_isNamePart.f k s) (partOk (bytesOf s)) := by
  unfold impl_isNamePart.f
  by_cases h0 : s.size = 0
  · have hb : bytesOf s = [] := by rw [← List.length_eq_zero_iff, bl_length]; exact h0
    refine Ev.pos ((toList_nil s).2 hb) (Ev.succ ?_)
    simp only [impl_isNamePart.j0]
    refine Ev.pos (by simp) (Ev.val ?_)
    rw [hb]
    rfl
  · refine Ev.neg (fun e => h0 ?_) (Ev.pos (by omega) ?_)
    · rw [← bl_length, (toList_nil s).1 e]
      rfl
    · rw [partOk_at s (by omega)]
      have all := part_impl_l0 s hs s.size 0 (by omega)
      rw [List.drop_zero] at all
      refine Ev.ite (fun h1 => Ev.succ ?_) (fun h1 => Ev.succ ?_)
      · simp only [impl_isNamePart.j0]
        refine Ev.pos (by simp) (Ev.val ?_)
        unfold isLow
        rw [decide_eq_false (by omega)]
        rfl
      · simp only [impl_isNamePart.j0]
        by_cases h2 : bt s 0 > 122
        · refine Ev.pos (by simpa using h2) (Ev.val ?_)
          unfold isLow
          rw [decide_eq_false (by omega)]
          rfl
        · refine Ev.neg (by simpa using h2) (Ev.cast all ?_)
          rw [show isLow (bt s 0) = true from decide_eq_true (by omega), Bool.true_and]
theorem index_part (xs : List ByteArray) (hx : xs.length ≤ 140737488351232) (hz : ∀ x ∈ xs, x.size ≤ 140737488351232) : ∀ (d i : Nat), i + d = xs.length → ∃ r : Int, Ev (fun k => slices_IndexFunc_string_string_at_impl_NameOk_1.l0 k xs (xs.length : Int) (i : Int)) r ∧ (decide (r ≥ 0) = !((xs.drop i).all fun x => partOk (bytesOf x))) := by
  intro d
  induction d with
  | zero =>
    intro i h
    refine ⟨-1, Ev.succ ?_, ?_⟩
    · simp only [slices_IndexFunc_string_string_at_impl_NameOk_1.l0]
      exact Ev.neg (by omega) (Ev.val rfl)
    · rw [List.drop_eq_nil_iff.2 (by omega)]
      rfl
  | succ d ih =>
    intro i h
    have hi : i < xs.length := by omega
    rw [List.drop_eq_getElem_cons hi]
    obtain ⟨r, he, hr⟩ := ih (i + 1) (by omega)
    have hp := ev_isNamePart xs[i] (hz _ (List.getElem_mem hi))
    cases hb : partOk (bytesOf xs[i])
    · refine ⟨(i : Int), Ev.succ ?_, ?_⟩
      · simp only [slices_IndexFunc_string_string_at_impl_NameOk_1.l0]
        refine Ev.pos (by omega) (Ev.pos (by omega) (Ev.pos (by omega) ?_))
        rw [rdOf_at _ xs i hi]
        unfold impl_NameOk_1.f
        rw [hb] at hp
        exact Ev.bnd (a := true) (Ev.bnd hp (Ev.val rfl)) (Ev.pos rfl (Ev.val rfl))
      · rw [List.all_cons, hb, Bool.false_and, decide_eq_true (by omega)]
        rfl
    · refine ⟨r, Ev.succ ?_, ?_⟩
      · simp only [slices_IndexFunc_string_string_at_impl_NameOk_1.l0]
        refine Ev.pos (by omega) (Ev.pos (by omega) (Ev.pos (by omega) ?_))
        rw [rdOf_at _ xs i hi]
        unfold impl_NameOk_1.f
        rw [hb] at hp
        refine Ev.bnd (a := false) (Ev.bnd hp (Ev.val rfl)) (Ev.neg (by simp) ?_)
        rw [wS i (by omega)]
        exact he
      · rw [hr, List.all_cons, hb, Bool.true_and]
theorem map_all {xs : List ByteArray} {ps : List (List Int)} (h : xs.map bytesOf = ps) : (xs.all fun x => partOk (bytesOf x)) = ps.all partOk := by
  rw [← h, List.all_map]
  rfl
theorem cut_sizes {s : ByteArray} {xs : List ByteArray} (h : xs.map bytesOf = cutL 46 (bytesOf s)) : ∀ x ∈ xs, x.size ≤ s.size := by
  have key : ∀ (c : Int) (l : List Int), ∀ p ∈ cutL c l, p.length ≤ l.length := by
    intro c l
    induction l with
    | nil =>
      intro p hp
      simp [cutL] at hp
      simp [hp]
    | cons x l ih =>
      intro p hp
      by_cases hx : x = c
      · rw [hx, cutL_here] at hp
        rcases List.mem_cons.1 hp with rfl | hp
        · simp
        · have := ih p hp
          simp
          omega
      · rw [cutL_other c x l hx] at hp
        cases e : cutL c l with
        | nil => exact absurd e (cutL_ne c l)
        | cons q qs =>
          rw [e] at hp ih
          rcases List.mem_cons.1 hp with rfl | hp
          · have := ih q (by simp)
            simp
            omega
          · have := ih p (by simp [hp])
            simp
            omega
  intro x hx
  have := key 46 (bytesOf s) (bytesOf x) (by rw [← h]; exact List.mem_map_of_mem hx)
  rwa [bl_length, bl_length] at this
theorem ev_NameOk (s : ByteArray) : Ev (fun k => impl_NameOk.f k s) (nameOk (bytesOf s)) := by
  unfold impl_NameOk.f nameOk
  rw [bl_length]
  by_cases h40 : (s.size : Int) > 40
  · refine Ev.pos h40 (Ev.val ?_)
    rw [decide_eq_false (by omega)]
    rfl
  refine Ev.neg h40 ?_
  rw [decide_eq_true (show s.size ≤ 40 by omega), Bool.true_and]
  obtain ⟨r, he, hr⟩ := split_dot s (by omega)
  have hlen : r.length = (cutL 46 (bytesOf s)).length := by rw [← hr, List.length_map]
  have hcl : (bytesOf s).count 46 ≤ s.size := by
    rw [← bl_length]
    exact List.count_le_length
  have hl2 := cutL_length 46 (bytesOf s)
  rw [he]
  refine Ev.some_bind ?_
  rw [← hlen]
  by_cases h5 : r.length ≤ 5
  · refine Ev.pos (by omega) ?_
    rw [decide_eq_true h5, Bool.true_and]
    unfold slices_ContainsFunc_string_string_at_impl_NameOk_1.f slices_IndexFunc_string_string_at_impl_NameOk_1.f
    obtain ⟨q, hq, hd⟩ := index_part r (by omega) (fun x hx => Nat.le_trans (cut_sizes hr x hx) (by omega)) r.length 0 (by omega)
    rw [List.drop_zero, map_all hr] at hd
    exact Ev.bnd (Ev.bnd hq (Ev.val rfl)) (Ev.val (by rw [hd, Bool.not_not]))
  · refine Ev.neg (by omega) (Ev.val ?_)
    rw [decide_eq_false h5]
    rfl
end Go.Proofs.YtckdocofmffheaaDoor.Pv
/- What the Go function Under comes to, of the program and of the reference. No condition beyond the sizes. -/
namespace Go.Proofs.YtckdocofmffheaaDoor.Pv
set_option linter.unusedSimpArgs false
set_option linter.unusedVariables false
open Go.RowKit Go.Proofs.YtckdocofmffheaaDoor.Q Go.Proofs.YtckdocofmffheaaDoorW.PrintWords Go.Proofs.YtckdocofmffheaaDoorW.PrintLast Go.Proofs.YtckdocofmffheaaDoorW.PrintMore
theorem toList_inj {a b : ByteArray} : a.toList = b.toList ↔ a = b := by
  rw [ByteArray.toList_eq, ByteArray.toList_eq]
  constructor
  · intro h
    cases a
    cases b
    simp only at h
    rw [Array.toList_inj.1 h]
  · rintro rfl
    rfl
theorem map_bl_inj : ∀ {xs ys : List ByteArray}, xs.map bytesOf = ys.map bytesOf → xs = ys
  | [], [], _ => rfl
  | [], _ :: _, h => by simp at h
  | _ :: _, [], h => by simp at h
  | x :: xs, y :: ys, h => by
    simp only [List.map_cons, List.cons.injEq] at h
    rw [bl_inj h.1, map_bl_inj h.2]
theorem nameOk_size {s : ByteArray} (h : nameOk (bytesOf s) = true) : s.size ≤ 40 := by
  unfold nameOk at h
  rw [Bool.and_eq_true] at h
  have := of_decide_eq_true h.1
  rwa [bl_length] at this
/-- Is the second name under the first? -/
def nmUnder (a b : ByteArray) : Bool := nameOk (bytesOf a) && (nameOk (bytesOf b) && decide (cutL 46 (bytesOf a) <+: cutL 46 (bytesOf b)))
theorem map_prefix {xs ys : List ByteArray} : xs.map bytesOf <+: ys.map bytesOf ↔ xs <+: ys := by
  constructor
  · intro h
    rw [List.prefix_iff_eq_take, List.length_map, ← List.map_take] at h
    rw [List.prefix_iff_eq_take]
    exact map_bl_inj h
  · rintro ⟨t, rfl⟩
    exact ⟨t.map bytesOf, by rw [List.map_append]⟩
theorem hasPrefix_eq (s p : ByteArray) : strings_HasPrefix.f s p = some (decide (bytesOf p <+: bytesOf s)) := by
  unfold strings_HasPrefix.f stringslite_HasPrefix.f
  by_cases h : (s.size : Int) ≥ (p.size : Int)
  · rw [if_pos h, if_pos (by omega), if_pos (by omega)]
    show some _ = _
    congr 1
    rw [Bool.eq_iff_iff, beq_iff_eq, decide_eq_true_iff, toList_inj, List.prefix_iff_eq_take, bl_length]
    constructor
    · intro e
      have e2 := congrArg bytesOf e
      rw [bl_extract, Int.toNat_natCast, List.drop_zero, Nat.sub_zero] at e2
      exact e2.symm
    · intro e
      apply bl_inj
      rw [bl_extract, Int.toNat_natCast, e]
      simp
  · rw [if_neg h]
    show some _ = _
    congr 1
    symm
    apply decide_eq_false
    intro e
    have := e.length_le
    rw [bl_length, bl_length] at this
    omega
theorem ev_Under (a b : ByteArray) (ha : a.size ≤ 140737488351232) : Ev (fun k => impl_Under.f k a b) (nmUnder a b) := by
  unfold impl_Under.f nmUnder
  refine Ev.bnd (ev_NameOk a) ?_
  by_cases h1 : nameOk (bytesOf a) = true
  · rw [h1, Bool.true_and]
    refine Ev.pos rfl (Ev.bnd (ev_NameOk b) ?_)
    by_cases h2 : nameOk (bytesOf b) = true
    · rw [h2, Bool.true_and]
      refine Ev.pos rfl ?_
      have hc := cut_prefix 46 (bytesOf a) (bytesOf b)
      by_cases h3 : a.toList = b.toList
      · refine Ev.pos h3 (Ev.val ?_)
        rw [toList_inj] at h3
        symm
        apply decide_eq_true
        rw [h3]
        exact List.prefix_refl _
      · refine Ev.neg h3 (Ev.pos (by omega) ?_)
        rw [hasPrefix_eq]
        refine Ev.some_bind (Ev.val ?_)
        rw [decide_eq_decide, hc, bl_append]
        constructor
        · exact .inr
        · rintro (e | e)
          · exact absurd (by rw [bl_inj e]) h3
          · exact e
    · rw [Bool.eq_false_iff.2 h2, Bool.false_and]
      exact Ev.neg (by simp) (Ev.val rfl)
  · rw [Bool.eq_false_iff.2 h1, Bool.false_and]
    exact Ev.neg (by simp) (Ev.val rfl)
end Go.Proofs.YtckdocofmffheaaDoor.Pv
/- The words of the kinds of labels, of the program and of the reference; a kind is told by its word. No condition. -/
namespace Go.Proofs.YtckdocofmffheaaDoor.Pv
set_option linter.unusedSimpArgs false
set_option linter.unusedVariables false
open Go.RowKit Go.Proofs.YtckdocofmffheaaDoor.Q Go.Proofs.YtckdocofmffheaaDoorW.PrintWords Go.Proofs.YtckdocofmffheaaDoorW.PrintLast Go.Proofs.YtckdocofmffheaaDoorW.PrintMore
/-- The word of a kind. -/
def lbWord (n : Int) : ByteArray := if n = 1 then ⟨#[97, 120, 105, 111, 109]⟩ else if n = 2 then ⟨#[111, 112, 97, 113, 117, 101]⟩ else if n = 3 then ⟨#[117, 110, 115, 97, 102, 101]⟩ else if n = 4 then ⟨#[110, 111, 117, 110, 105, 118]⟩ else ⟨#[110, 111, 112, 111, 115]⟩
theorem lbWord_size (n : Int) : (lbWord n).size ≤ 6 := by
  unfold lbWord
  repeat (first | split | decide)
theorem lbWord_inj {i j : Int} (hi : 1 ≤ i ∧ i ≤ 5) (hj : 1 ≤ j ∧ j ≤ 5) (h : lbWord i = lbWord j) : i = j := by
  have hi' : i = 1 ∨ i = 2 ∨ i = 3 ∨ i = 4 ∨ i = 5 := by omega
  have hj' : j = 1 ∨ j = 2 ∨ j = 3 ∨ j = 4 ∨ j = 5 := by omega
  rcases hi' with rfl | rfl | rfl | rfl | rfl <;> rcases hj' with rfl | rfl | rfl | rfl | rfl <;> first | rfl | (exfalso; revert h; decide)
end Go.Proofs.YtckdocofmffheaaDoor.Pv
/- A kind is told by its word. No condition. -/
namespace Go.Proofs.YtckdocofmffheaaDoor.Pv
set_option linter.unusedSimpArgs false
set_option linter.unusedVariables false
open Go.RowKit Go.Proofs.YtckdocofmffheaaDoor.Q Go.Proofs.YtckdocofmffheaaDoorW.PrintWords Go.Proofs.YtckdocofmffheaaDoorW.PrintLast Go.Proofs.YtckdocofmffheaaDoorW.PrintMore
end Go.Proofs.YtckdocofmffheaaDoor.Pv
/- What RuleOk, RuleLine and ReadRule come to, of the program and of the reference. No condition beyond the sizes. -/
namespace Go.Proofs.YtckdocofmffheaaDoor.Pv
set_option linter.unusedSimpArgs false
set_option linter.unusedVariables false
open Go.RowKit Go.Proofs.YtckdocofmffheaaDoor.Q Go.Proofs.YtckdocofmffheaaDoorW.PrintWords Go.Proofs.YtckdocofmffheaaDoorW.PrintLast Go.Proofs.YtckdocofmffheaaDoorW.PrintMore
def rlOk (p : ByteArray) (n : Int) (a : ByteArray) : Bool := nameOk (bytesOf p) && (decide (1 ≤ n ∧ n ≤ 5) && (decide (a.toList = []) || nameOk (bytesOf a)))
theorem ev_RuleOk (p : ByteArray) (n : Int) (a : ByteArray) : Ev (fun k => impl_RuleOk.f k p n a) (rlOk p n a) := by
  unfold impl_RuleOk.f rlOk
  refine Ev.bnd (ev_NameOk p) ?_
  cases h1 : nameOk (bytesOf p)
  · exact Ev.neg (by simp) (Ev.val rfl)
  refine Ev.pos rfl ?_
  rw [isKind_eq, Bool.true_and]
  refine Ev.some_bind ?_
  by_cases h2 : 1 ≤ n ∧ n ≤ 5
  · rw [decide_eq_true h2, Bool.true_and]
    refine Ev.pos rfl (Ev.ite (fun h3 => Ev.val ?_) (fun h3 => Ev.bnd (ev_NameOk a) (Ev.val ?_)))
    · rw [decide_eq_true h3, Bool.true_or]
    · rw [decide_eq_false h3, Bool.false_or]
  · rw [decide_eq_false h2, Bool.false_and]
    exact Ev.neg (by simp) (Ev.val rfl)
theorem rlOk_of {p : ByteArray} {n : Int} {a : ByteArray} (h : rlOk p n a = true) : p.size ≤ 40 ∧ (1 ≤ n ∧ n ≤ 5) ∧ a.size ≤ 40 := by
  unfold rlOk at h
  simp only [Bool.and_eq_true, Bool.or_eq_true, decide_eq_true_iff] at h
  refine ⟨nameOk_size h.1, h.2.1, ?_⟩
  rcases h.2.2 with e | e
  · have := (toList_nil a).1 e
    rw [← bl_length, this]
    decide
  · exact nameOk_size e
def rlHead (p : ByteArray) (n : Int) : ByteArray := ((((⟨#[102, 111, 114, 98, 105, 100, 32]⟩ : ByteArray) ++ p) ++ (⟨#[32]⟩ : ByteArray)) ++ lbWord n) ++ (⟨#[32]⟩ : ByteArray)
def rlTail (a : ByteArray) : ByteArray := if a.toList = [] then ⟨#[42]⟩ else a
def rlLine (p : ByteArray) (n : Int) (a : ByteArray) : ByteArray × Bool := if rlOk p n a = true then (rlHead p n ++ rlTail a, true) else (⟨#[]⟩, false)
theorem lit7 : (⟨#[102, 111, 114, 98, 105, 100, 32]⟩ : ByteArray).size = 7 := rfl
theorem lit1 : (⟨#[32]⟩ : ByteArray).size = 1 := rfl
end Go.Proofs.YtckdocofmffheaaDoor.Pv
/- What Forbids comes to, of the program and of the reference. No condition beyond the sizes. -/
namespace Go.Proofs.YtckdocofmffheaaDoor.Pv
set_option linter.unusedSimpArgs false
set_option linter.unusedVariables false
open Go.RowKit Go.Proofs.YtckdocofmffheaaDoor.Q Go.Proofs.YtckdocofmffheaaDoorW.PrintWords Go.Proofs.YtckdocofmffheaaDoorW.PrintLast Go.Proofs.YtckdocofmffheaaDoorW.PrintMore
/-- Does the rule (p, n, a) forbid the label (m, t) to the name s? -/
def rlForbids (p : ByteArray) (n : Int) (a s : ByteArray) (m : Int) (t : ByteArray) : Bool := rlOk p n a && (nmUnder p s && (decide (n = m) && (decide (a.toList = []) || (a.toList == t.toList))))
theorem ev_Forbids (p : ByteArray) (n : Int) (a s : ByteArray) (m : Int) (t : ByteArray) : Ev (fun k => impl_Forbids.f k p n a s m t) (rlForbids p n a s m t) := by
  unfold impl_Forbids.f rlForbids
  refine Ev.bnd (ev_RuleOk p n a) ?_
  by_cases h : rlOk p n a = true
  · have hp := (rlOk_of h).1
    rw [h, Bool.true_and]
    refine Ev.pos rfl (Ev.bnd (ev_Under p s (by omega)) ?_)
    cases h2 : nmUnder p s
    · exact Ev.neg (by simp) (Ev.val rfl)
    · rw [Bool.true_and]
      refine Ev.pos rfl (Ev.ite (fun e => ?_) (fun e => Ev.val ?_))
      · rw [decide_eq_true e.symm, Bool.true_and]
        refine Ev.ite (fun e2 => Ev.val ?_) (fun e2 => Ev.val ?_)
        · rw [decide_eq_true e2, Bool.true_or]
        · rw [decide_eq_false e2, Bool.false_or]
      · rw [decide_eq_false (fun z => e z.symm), Bool.false_and]
  · rw [Bool.eq_false_iff.2 h, Bool.false_and]
    exact Ev.neg (by simp) (Ev.val rfl)
end Go.Proofs.YtckdocofmffheaaDoor.Pv
/- The violated labels: what the program and the reference come to. No condition beyond the sizes. -/
namespace Go.Proofs.YtckdocofmffheaaDoor.Pv
set_option linter.unusedSimpArgs false
set_option linter.unusedVariables false
open Go.RowKit Go.Proofs.YtckdocofmffheaaDoor.Q Go.Proofs.YtckdocofmffheaaDoorW.PrintWords Go.Proofs.YtckdocofmffheaaDoorW.PrintLast Go.Proofs.YtckdocofmffheaaDoorW.PrintMore
def brOne (nm : ByteArray) (l : S30) (r : S41) : Bool := rlForbids r.f0 r.f1 r.f2 nm l.f0 l.f1
def brAll (rules : List S41) (nm : ByteArray) (labels : List S30) : List S30 := labels.filter fun l => rules.any (brOne nm l)
/-- From some number of rounds on, for all members at once. -/
theorem ev_members {α β : Type} (g : α → Nat → Option β) (v : α → β) : ∀ xs : List α, (∀ x ∈ xs, Ev (g x) (v x)) → ∃ K, ∀ k, K ≤ k → ∀ x ∈ xs, g x k = some (v x) := by
  intro xs
  induction xs with
  | nil => intro _; exact ⟨0, fun k _ x hx => by cases hx⟩
  | cons x xs ih =>
    intro h
    obtain ⟨K1, h1⟩ := ih fun y hy => h y (List.mem_cons_of_mem _ hy)
    obtain ⟨K2, h2⟩ := h x (List.mem_cons_self ..)
    refine ⟨max K1 K2, fun k hk y hy => ?_⟩
    rcases List.mem_cons.1 hy with rfl | hy
    · exact h2 k (by omega)
    · exact h1 k (by omega) y hy
theorem ev_Broken (rules : List S41) (nm : ByteArray) (labels : List S30) (hl : labels.length ≤ 1048576) : Ev (fun k => impl_Broken.f k rules nm labels) (brAll rules nm labels) := by
  have h1 : ∀ l : S30, ∃ K, ∀ k, K ≤ k → ∀ r ∈ rules, impl_Broken.one k nm l r = some (brOne nm l r) := fun l => ev_members (fun r k => impl_Broken.one k nm l r) (brOne nm l) rules fun r _ => ev_Forbids _ _ _ _ _ _
  have h2 : ∃ K, ∀ k, K ≤ k → ∀ l ∈ labels, ∀ r ∈ rules, impl_Broken.one k nm l r = some (brOne nm l r) := by
    clear hl
    induction labels with
    | nil => exact ⟨0, fun k _ x hx => by cases hx⟩
    | cons x xs ih =>
      obtain ⟨K1, a⟩ := ih
      obtain ⟨K2, b⟩ := h1 x
      refine ⟨max K1 K2, fun k hk y hy => ?_⟩
      rcases List.mem_cons.1 hy with rfl | hy
      · exact b k (by omega)
      · exact a k (by omega) y hy
  obtain ⟨K, hK⟩ := h2
  refine ⟨K, fun k hk => ?_⟩
  have ha := hK k hk
  show impl_Broken.f k rules nm labels = some (brAll rules nm labels)
  unfold impl_Broken.f brAll
  rw [if_pos ⟨by omega, List.all_eq_true.2 fun l hl => List.all_eq_true.2 fun r hr => by rw [ha l hl r hr]; rfl⟩]
  congr 1
  refine List.filter_congr fun l hl => ?_
  rw [Bool.eq_iff_iff, List.any_eq_true, List.any_eq_true]
  constructor
  · rintro ⟨r, hr, e⟩
    refine ⟨r, hr, ?_⟩
    unfold impl_Broken.fb at e
    rw [ha l hl r hr] at e
    simpa using e
  · rintro ⟨r, hr, e⟩
    refine ⟨r, hr, ?_⟩
    unfold impl_Broken.fb
    rw [ha l hl r hr, e]
    rfl
theorem rdR_at (xs : List S41) (i : Nat) (h : i < xs.length) : rd_T41 xs (i : Int) = xs[i] := getD_at _ _ _ h
theorem rdB_at (xs : List S30) (i : Nat) (h : i < xs.length) : rd_T30 xs (i : Int) = xs[i] := getD_at _ _ _ h
theorem brAll_len (rules : List S41) (nm : ByteArray) (labels : List S30) : (brAll rules nm labels).length ≤ labels.length := List.length_filter_le _ _
theorem ev_Allowed (rules : List S41) (nm : ByteArray) (labels : List S30) (hl : labels.length ≤ 1048576) : Ev (fun k => impl_Allowed.f k rules nm labels) ((((brAll rules nm labels).length : Int)) == 0) := by
  unfold impl_Allowed.f
  exact Ev.bnd (ev_Broken rules nm labels hl) (Ev.val rfl)
end Go.Proofs.YtckdocofmffheaaDoor.Pv
/- What is drawn: the cursor's numbers are in their ranges; it always goes on. No condition beyond the sizes. -/
namespace Go.Proofs.YtckdocofmffheaaDoor.Pv
set_option linter.unusedSimpArgs false
set_option linter.unusedVariables false
open Go.RowKit Go.Proofs.YtckdocofmffheaaDoor.Q Go.Proofs.YtckdocofmffheaaDoorW.PrintWords Go.Proofs.YtckdocofmffheaaDoorW.PrintLast Go.Proofs.YtckdocofmffheaaDoorW.PrintMore
def CurOk (b : List Int) (i : Int) : Prop := b.length ≤ 140737488351232 ∧ 0 ≤ i ∧ i ≤ (b.length : Int)
theorem new_l0 (l : List Int) (hl : l.length ≤ 140737488351232) : ∀ (d i : Nat) (h : Int), i + d = l.length → ∃ h', Ev (fun k => spec_l01New.l0 k l h (i : Int)) (l, 0, h') := by
  intro d
  induction d with
  | zero =>
    intro i h hi
    refine ⟨h, Ev.succ ?_⟩
    simp only [spec_l01New.l0]
    exact Ev.neg (by omega) (Ev.val rfl)
  | succ d ih =>
    intro i h hi
    by_cases h4 : (i : Int) < 4000
    · obtain ⟨h', he⟩ := ih (i + 1) (Go.bits .and .i64 (wrap64 ((wrap64 ((wrap64 (h * 131)) + (wrap64 (rd l (i : Int))))) + 7)) 1073741823) (by omega)
      refine ⟨h', Ev.succ ?_⟩
      simp only [spec_l01New.l0]
      refine Ev.pos (by omega) (Ev.pos h4 (Ev.pos (by omega) ?_))
      rw [wS i (by omega)]
      exact he
    · refine ⟨h, Ev.succ ?_⟩
      simp only [spec_l01New.l0]
      exact Ev.pos (by omega) (Ev.neg h4 (Ev.val rfl))
theorem ev_new (l : List Int) (hl : l.length ≤ 140737488351232) : ∃ h', Ev (fun k => spec_l01New.f k l) (l, 0, h') := by
  unfold spec_l01New.f
  exact new_l0 l hl l.length 0 _ (by omega)
theorem cur_new {l : List Int} (hl : l.length ≤ 140737488351232) : CurOk l 0 := ⟨hl, by omega, by omega⟩
theorem cur_byte {b : List Int} {i : Int} (h : Int) (hc : CurOk b i) : ∃ x i' h', spec_l01Byte.f b i h = some (x, i', h') ∧ 0 ≤ x ∧ x ≤ 255 ∧ CurOk b i' := by
  obtain ⟨hb, h0, h1⟩ := hc
  unfold spec_l01Byte.f
  by_cases hlt : i < (b.length : Int)
  · rw [if_pos hlt, if_pos h0]
    refine ⟨_, _, _, rfl, (and255 _).1, (and255 _).2, hb, ?_, ?_⟩ <;> (rw [w_id (by omega) (by omega)]; omega)
  · rw [if_neg hlt]
    exact ⟨_, _, _, rfl, (and255 _).1, (and255 _).2, hb, h0, h1⟩
theorem cur_below {b : List Int} {i : Int} (h n : Int) (hn : 0 < n) (hn2 : n ≤ 256) (hc : CurOk b i) : ∃ r i' h', spec_l01Below.f b i h n = some (r, i', h') ∧ 0 ≤ r ∧ r < n ∧ CurOk b i' := by
  obtain ⟨x, i', h', e, hx, _, hc'⟩ := cur_byte h hc
  unfold spec_l01Below.f
  rw [if_neg (by omega), if_pos hn2, e, Option.bind_some, if_neg (by omega)]
  exact ⟨_, _, _, rfl, Int.tmod_nonneg _ hx, Int.tmod_lt_of_pos _ hn, hc'⟩
theorem cur_belowL {b : List Int} {i : Int} (h n : Int) (hn : 256 < n) (hc : CurOk b i) : ∃ r i' h', spec_l01Below.f b i h n = some (r, i', h') ∧ 0 ≤ r ∧ r < n ∧ CurOk b i' := by
  obtain ⟨x1, i1, h1, e1, a1, b1, c1⟩ := cur_byte h hc
  obtain ⟨x2, i2, h2, e2, a2, b2, c2⟩ := cur_byte h1 c1
  obtain ⟨x3, i3, h3, e3, a3, b3, c3⟩ := cur_byte h2 c2
  obtain ⟨x4, i4, h4, e4, a4, b4, c4⟩ := cur_byte h3 c3
  unfold spec_l01Below.f
  rw [if_neg (by omega), if_neg (by omega), e1, Option.bind_some]
  simp only
  rw [e2, Option.bind_some]
  simp only
  rw [e3, Option.bind_some]
  simp only
  rw [e4, Option.bind_some, if_neg (by omega)]
  refine ⟨_, _, _, rfl, Int.tmod_nonneg _ ?_, Int.tmod_lt_of_pos _ (by omega), c4⟩
  simp only
  unfold wrap64
  omega
theorem cur_once {b : List Int} {i : Int} (h n : Int) (hn : 0 < n) (hn2 : n ≤ 256) (hc : CurOk b i) : ∃ r i' h', spec_l01Once.f b i h n = some (r, i', h') ∧ CurOk b i' := by
  obtain ⟨x, i', h', e, _, _, hc'⟩ := cur_below h n hn hn2 hc
  unfold spec_l01Once.f
  rw [e]
  exact ⟨_, _, _, rfl, hc'⟩
end Go.Proofs.YtckdocofmffheaaDoor.Pv
/- Drawn names, labels and rules: each is one of the few that are listed. No condition beyond the sizes. -/
namespace Go.Proofs.YtckdocofmffheaaDoor.Pv
set_option linter.unusedSimpArgs false
set_option linter.unusedVariables false
open Go.RowKit Go.Proofs.YtckdocofmffheaaDoor.Q Go.Proofs.YtckdocofmffheaaDoorW.PrintWords Go.Proofs.YtckdocofmffheaaDoorW.PrintLast Go.Proofs.YtckdocofmffheaaDoorW.PrintMore
theorem cur_pick {b : List Int} {i : Int} (h : Int) (list : List ByteArray) (h0 : 0 < list.length) (h1 : list.length ≤ 256) (hc : CurOk b i) : ∃ x i' h', spec_l01Pick.f b i h list = some (x, i', h') ∧ x ∈ list ∧ CurOk b i' := by
  obtain ⟨r, i', h', e, r0, r1, hc'⟩ := cur_below h (list.length : Int) (by omega) (by omega) hc
  unfold spec_l01Pick.f
  rw [e, Option.bind_some]
  simp only
  rw [if_pos r0, if_pos r1]
  refine ⟨_, _, _, rfl, ?_, hc'⟩
  unfold rdOf
  rw [List.getD_eq_getElem?_getD, List.getElem?_eq_getElem (by omega)]
  exact List.getElem_mem _
def drNames : List ByteArray := [⟨#[110, 97, 116]⟩, ⟨#[110, 97, 116, 46, 122, 101, 114, 111]⟩, ⟨#[110, 97, 116, 46, 115, 117, 99, 99]⟩, ⟨#[105, 100]⟩, ⟨#[101, 109]⟩, ⟨#[97, 46, 98]⟩, ⟨#[97, 46, 98, 46, 99]⟩, ⟨#[98, 111, 111, 108]⟩, ⟨#[101, 113]⟩, ⟨#[97, 100, 100]⟩, ⟨#[120, 49]⟩]
theorem cur_name {b : List Int} {i : Int} (h : Int) (hc : CurOk b i) : ∃ x i' h', spec_l02Name.f b i h = some (x, i', h') ∧ x ∈ drNames ∧ CurOk b i' := by
  obtain ⟨x, i', h', e, hx, hc'⟩ := cur_pick h drNames (by decide) (by decide) hc
  unfold spec_l02Name.f
  unfold drNames at e
  rw [e]
  exact ⟨x, i', h', rfl, hx, hc'⟩
theorem cur_label {b : List Int} {i : Int} (h : Int) (hc : CurOk b i) : ∃ n x i' h', spec_l03Label.f b i h = some (n, x, i', h') ∧ 1 ≤ n ∧ n ≤ 5 ∧ x ∈ drNames ∧ CurOk b i' := by
  obtain ⟨r, i1, h1, e1, r0, r1, c1⟩ := cur_below h 5 (by omega) (by omega) hc
  obtain ⟨x, i2, h2, e2, hx, c2⟩ := cur_name h1 c1
  unfold spec_l03Label.f
  rw [e1, Option.bind_some]
  simp only
  rw [e2, Option.bind_some]
  have hw : wrap64 (1 + r) = 1 + r := w_id (by omega) (by omega)
  exact ⟨_, _, _, _, rfl, by omega, by omega, hx, c2⟩
theorem ev_DrawLabels (l : List Int) (hl : l.length ≤ 140737488351232) : ∃ L : List S30, Ev (fun k => spec_DrawLabels.f k l) L ∧ L.length ≤ 5 ∧ ∀ x ∈ L, (1 ≤ x.f0 ∧ x.f0 ≤ 5) ∧ x.f1 ∈ drNames := by
  obtain ⟨h', e⟩ := ev_new l hl
  have loop : ∀ (d i : Nat) (acc : List S30) (c h : Int), i + d = 6 → CurOk l c → acc.length ≤ i → acc.length ≤ 5 → (∀ x ∈ acc, (1 ≤ x.f0 ∧ x.f0 ≤ 5) ∧ x.f1 ∈ drNames) → ∃ L : List S30, Ev (fun k => spec_DrawLabels.l0 k acc (i : Int) l c h) L ∧ L.length ≤ 5 ∧ ∀ x ∈ L, (1 ≤ x.f0 ∧ x.f0 ≤ 5) ∧ x.f1 ∈ drNames := by
    intro d
    induction d with
    | zero =>
      intro i acc c h hi hc ha ha5 hacc
      obtain ⟨r, i1, h1, e1, r0, r1, c1⟩ := cur_below h 6 (by omega) (by omega) hc
      refine ⟨acc, Ev.succ ?_, ha5, hacc⟩
      simp only [spec_DrawLabels.l0]
      rw [e1]
      exact Ev.some_bind (Ev.neg (by simp only; omega) (Ev.val rfl))
    | succ d ih =>
      intro i acc c h hi hc ha ha5 hacc
      obtain ⟨r, i1, h1, e1, r0, r1, c1⟩ := cur_below h 6 (by omega) (by omega) hc
      by_cases hlt : (i : Int) < r
      · obtain ⟨n, x, i2, h2, e2, n0, n1, hx, c2⟩ := cur_label h1 c1
        obtain ⟨L, hL, hp⟩ := ih (i + 1) (acc ++ [(⟨n, x⟩ : S30)]) i2 h2 (by omega) c2 (by simp; omega) (by simp; omega) (fun y hy => by
          rcases List.mem_append.1 hy with hy | hy
          · exact hacc y hy
          · obtain rfl : y = ⟨n, x⟩ := by simpa using hy
            exact ⟨⟨n0, n1⟩, hx⟩)
        refine ⟨L, Ev.succ ?_, hp⟩
        simp only [spec_DrawLabels.l0]
        rw [e1]
        refine Ev.some_bind (Ev.pos hlt ?_)
        rw [e2]
        refine Ev.some_bind (Ev.pos (by omega) ?_)
        rw [wS i (by omega)]
        exact hL
      · refine ⟨acc, Ev.succ ?_, ha5, hacc⟩
        simp only [spec_DrawLabels.l0]
        rw [e1]
        exact Ev.some_bind (Ev.neg hlt (Ev.val rfl))
  obtain ⟨L, hL, hp⟩ := loop 6 0 [] 0 h' (by omega) (cur_new hl) (by simp) (by simp) (by simp)
  refine ⟨L, ?_, hp⟩
  unfold spec_DrawLabels.f
  exact Ev.bnd e hL
def drPrefixes : List ByteArray := [⟨#[110, 97, 116]⟩, ⟨#[116, 119, 111]⟩, ⟨#[98, 97, 100]⟩, ⟨#[101, 113]⟩, ⟨#[97]⟩, ⟨#[105, 100]⟩, ⟨#[116, 104, 114, 101, 101]⟩, ⟨#[101, 116, 97]⟩]
def drAbout : List ByteArray := [⟨#[101, 109]⟩, ⟨#[101, 113, 46, 114, 101, 102, 108]⟩, ⟨#[116, 119, 111, 46, 111, 107]⟩, ⟨#[109, 97, 103, 105, 99]⟩, ⟨#[99, 117, 114, 114, 121]⟩, ⟨#[98, 105, 103]⟩]
theorem ev_DrawRule (l : List Int) (hl : l.length ≤ 140737488351232) : ∃ p n a, Ev (fun k => spec_DrawRule.f k l) (p, n, a) ∧ p ∈ drPrefixes ∧ (1 ≤ n ∧ n ≤ 5) ∧ a ∈ (⟨#[]⟩ : ByteArray) :: drAbout := by
  obtain ⟨h', e⟩ := ev_new l hl
  obtain ⟨p, i1, h1, e1, hp, c1⟩ := cur_pick h' drPrefixes (by decide) (by decide) (cur_new hl)
  obtain ⟨r, i2, h2, e2, r0, r1, c2⟩ := cur_below h1 5 (by omega) (by omega) c1
  obtain ⟨o, i3, h3, e3, c3⟩ := cur_once h2 2 (by omega) (by omega) c2
  obtain ⟨a, i4, h4, e4, ha, c4⟩ := cur_pick h3 drAbout (by decide) (by decide) c3
  have hw : wrap64 (1 + r) = 1 + r := w_id (by omega) (by omega)
  unfold drPrefixes at e1
  unfold drAbout at e4
  cases o with
  | true =>
    refine ⟨p, wrap64 (1 + r), a, ?_, hp, by omega, List.mem_cons_of_mem _ ha⟩
    unfold spec_DrawRule.f
    refine Ev.bnd e ?_
    simp only [spec_l18Rule.f]
    rw [e1, Option.bind_some]
    simp only
    rw [e2, Option.bind_some]
    simp only
    rw [e3, Option.bind_some]
    simp only [if_true]
    rw [e4]
    exact Ev.val rfl
  | false =>
    refine ⟨p, wrap64 (1 + r), ⟨#[]⟩, ?_, hp, by omega, List.mem_cons_self ..⟩
    unfold spec_DrawRule.f
    refine Ev.bnd e ?_
    simp only [spec_l18Rule.f]
    rw [e1, Option.bind_some]
    simp only
    rw [e2, Option.bind_some]
    simp only
    rw [e3, Option.bind_some]
    exact Ev.val rfl
end Go.Proofs.YtckdocofmffheaaDoor.Pv
/- Readings of arguments: whatever can be read as data of a type is, cell by cell, of the kind by which the printed walks read it; the numbers in it are whole numbers of their kinds. No condition. -/
namespace Go.Proofs.YtckdocofmffheaaDoor.Pv
set_option linter.unusedSimpArgs false
set_option linter.unusedVariables false
open Go.RowKit Go.Proofs.YtckdocofmffheaaDoorW.PrintWords
/-- What is read at type t is of kind d, and good. -/
structure Opens (P : Program) (t : TypeId) {α : Type} (d : Kd α) (G : α → Prop) : Prop where
  rd : ∀ {H : Type} {enc : TypeId × Value → H} {w : World} {n : Nat} {cs : List Value} {x : DataW H × List MemPlace}, DataW.trod enc P w 0 (fun _ => true) true n t cs = some x → ∃ v, d.K w v cs ∧ G v
variable {P : Program} {t e : TypeId} {α β : Type} {d : Kd α} {d' : Kd β} {G : α → Prop} {G' : β → Prop}
def gI (k : IntKind) (n : Int) : Prop := (Lit.int k n).wf = true
def gS (s : ByteArray) : Prop := s.size ≤ maxLen
def gB (_ : Bool) : Prop := True
def gL (G : α → Prop) (xs : List α) : Prop := (∀ x ∈ xs, G x) ∧ xs.length ≤ maxLen
theorem opens_int {k : IntKind} (ht : P.underlying t = some (.int k)) : Opens P t (Kd.int k) (gI k) := by
  refine ⟨?_⟩
  intro H enc w n cs x h
  obtain ⟨m, rfl, rfl, hm⟩ := DataW.trod_int ht h
  exact ⟨m, rfl, hm⟩
theorem opens_bool (ht : P.underlying t = some .bool) : Opens P t Kd.bool gB := by
  refine ⟨?_⟩
  intro H enc w n cs x h
  obtain ⟨m, rfl, rfl⟩ := DataW.trod_bool ht h
  exact ⟨m, rfl, trivial⟩
theorem opens_string (ht : P.underlying t = some .string) : Opens P t Kd.string gS := by
  refine ⟨?_⟩
  intro H enc w n cs x h
  obtain ⟨s, rfl, rfl, hs⟩ := DataW.trod_string ht h
  exact ⟨s, rfl, hs⟩
theorem add_add (a : Addr) (m n : Nat) : (a.add m).add n = a.add (m + n) := by
  unfold Addr.add
  rcases Nat.eq_zero_or_pos m with rfl | hm
  · simp
  · rcases Nat.eq_zero_or_pos n with rfl | hn
    · simp
    · rw [if_neg (by omega), if_neg (by omega), if_neg (by omega)]
      simp [Nat.add_assoc]
theorem opens_slice (ht : P.underlying t = some (.slice e)) (hc : P.cellsOf e = d.sz) (hd : Opens P e d G) : Opens P t (Kd.slice e d) (gL G) := by
  refine ⟨?_⟩
  intro H enc w n cs x h
  rcases DataW.trod_slice ht h with ⟨rfl, rfl⟩ | ⟨a, len, cap, elems, rest, m, _, rfl, rfl, hb, hl, hm, hlen, hel, hsp, hns⟩
  · refine ⟨[], ⟨none, 0, rfl, Nat.le_refl _, rfl, Nat.zero_le _, fun h0 => absurd h0 (Nat.lt_irrefl _)⟩, ?_, Nat.zero_le _⟩
    intro x hx
    cases hx
  · have each : ∀ i, i < len → ∃ v c, w.cells? 0 (a.add (i * P.cellsOf e)) (P.cellsOf e) = some c ∧ d.K w v c ∧ G v := by
      intro i hi
      have h1 := hel i hi
      rw [List.getElem?_eq_getElem (by omega)] at h1
      obtain ⟨c, hc1, hc2⟩ := Option.bind_eq_some_iff.1 h1
      obtain ⟨v, hv, hg⟩ := hd.rd hc2
      exact ⟨v, c, hc1, hv, hg⟩
    have all : ∀ k, k ≤ len → ∃ xs : List α, xs.length = k ∧ (∀ y ∈ xs, G y) ∧ ∀ j p, xs[j]? = some p → ∃ c, w.cells? 0 (a.add (j * P.cellsOf e)) (P.cellsOf e) = some c ∧ d.K w p c := by
      intro k
      induction k with
      | zero => exact fun _ => ⟨[], rfl, (fun y hy => by cases hy), (fun j p hp => by simp at hp)⟩
      | succ k ih =>
        intro hk
        obtain ⟨xs, hxl, hxg, hxc⟩ := ih (by omega)
        obtain ⟨v, c, h1, h2, h3⟩ := each k (by omega)
        refine ⟨xs ++ [v], by simp [hxl], ?_, ?_⟩
        · intro y hy
          rcases List.mem_append.1 hy with hy | hy
          · exact hxg y hy
          · rw [List.mem_singleton.1 hy]
            exact h3
        · intro j p hp
          rcases Nat.lt_or_ge j xs.length with hj | hj
          · rw [List.getElem?_append_left hj] at hp
            exact hxc j p hp
          · have : j < (xs ++ [v]).length := (List.getElem?_eq_some_iff.1 hp).1
            have hj' : j = xs.length := by simp at this; omega
            subst hj'
            have : p = v := by simpa using hp.symm
            subst this
            rw [hxl]
            exact ⟨c, h1, h2⟩
    obtain ⟨xs, hxl, hxg, hxc⟩ := all len (Nat.le_refl _)
    subst hxl
    refine ⟨xs, ⟨some a, cap, rfl, hl, rfl, by unfold maxLen at hm; omega, fun _ => ⟨a, rfl, fun j p hp => ?_⟩⟩, hxg, by omega⟩
    obtain ⟨c, h1, h2⟩ := hxc j p hp
    obtain ⟨_, hcl, hcc⟩ := World.cells?_some h1
    have hcs : c.length = d.sz := d.K_len h2
    refine ⟨c, hcs, h2, fun i u hu => ?_⟩
    have hi : i < P.cellsOf e := by
      have := (List.getElem?_eq_some_iff.1 hu).1
      omega
    have h3 := hcc i hi
    rw [hu] at h3
    have ha : (a.add (j * P.cellsOf e)).add i = a.add (j * d.sz + i) := by
      rw [hc, add_add]
    rw [← ha]
    exact h3
/-- The fields from the place o on, one after the other. -/
structure OpensF (P : Program) (fs : List Field) (o : Nat) {α : Type} (d : Kd α) (G : α → Prop) : Prop where
  rd : ∀ {H : Type} {enc : TypeId × Value → H} {w : World} {n : Nat} {cs : List Value} {xs : List (DataW H × List MemPlace)}, cs.length = o + d.sz → xs.length = fs.length →
    (∀ (i : Nat) (f : Field), fs[i]? = some f → DataW.trod enc P w 0 (fun _ => true) true n f.type ((cs.drop f.offset).take (P.cellsOf f.type)) = xs[i]?) → ∃ v, d.K w v (cs.drop o) ∧ G v
theorem opensF_one {f : Field} {o : Nat} (ho : f.offset = o) (hc : P.cellsOf f.type = d.sz) (hd : Opens P f.type d G) : OpensF P [f] o d G := by
  refine ⟨?_⟩
  intro H enc w n cs xs hcs hxs h
  have h0 := h 0 f rfl
  have hx : 0 < xs.length := by rw [hxs]; exact Nat.zero_lt_one
  rw [List.getElem?_eq_getElem hx, ho] at h0
  obtain ⟨v, hv, hg⟩ := hd.rd h0
  refine ⟨v, ?_, hg⟩
  rw [hc, List.take_of_length_le (by rw [List.length_drop]; omega)] at hv
  exact hv
theorem opensF_cons {f : Field} {fs : List Field} {o : Nat} (ho : f.offset = o) (hc : P.cellsOf f.type = d.sz) (hd : Opens P f.type d G) (hs : OpensF P fs (o + d.sz) d' G') :
    OpensF P (f :: fs) o (Kd.pair d d') (fun x => G x.1 ∧ G' x.2) := by
  refine ⟨?_⟩
  intro H enc w n cs xs hcs hxs h
  have hcs : cs.length = o + (d.sz + d'.sz) := hcs
  cases xs with
  | nil => simp at hxs
  | cons x xs =>
    have h0 := h 0 f rfl
    rw [List.getElem?_cons_zero, ho, hc] at h0
    obtain ⟨v, hv, hg⟩ := hd.rd h0
    obtain ⟨v', hv', hg'⟩ := hs.rd (cs := cs) (xs := xs) (by omega) (by simpa using hxs) (fun i g hi => by
      have := h (i + 1) g (by simpa using hi)
      rw [List.getElem?_cons_succ] at this
      exact this)
    refine ⟨(v, v'), ⟨_, _, ?_, hv, hv'⟩, hg, hg'⟩
    have : (cs.drop o).take d.sz ++ (cs.drop o).drop d.sz = cs.drop o := List.take_append_drop _ _
    rw [List.drop_drop] at this
    exact this.symm
theorem opens_struct {fs : Array Field} (ht : P.underlying t = some (.struct fs)) (hc : P.cellsOf t = d.sz) (hf : OpensF P fs.toList 0 d G) : Opens P t d G := by
  refine ⟨?_⟩
  intro H enc w n cs x h
  obtain ⟨xs, m, rfl, rfl, hl, hx, hr⟩ := DataW.trod_struct ht h
  obtain ⟨v, hv, hg⟩ := hf.rd (cs := cs) (xs := xs) (by omega) (by simpa using hx) (fun i f hi => hr i f (by simpa using hi))
  exact ⟨v, hv, hg⟩
theorem opens_iso {f : β → α} (g : α → β) (hfg : ∀ x, f (g x) = x) (h : Opens P t d G) : Opens P t (Kd.iso d f) (fun x => G (f x)) := by
  refine ⟨?_⟩
  intro H enc w n cs x hx
  obtain ⟨v, hv, hg⟩ := h.rd hx
  exact ⟨g v, by show d.K w (f (g v)) cs; rw [hfg]; exact hv, by show G (f (g v)); rw [hfg]; exact hg⟩
end Go.Proofs.YtckdocofmffheaaDoor.Pv
/- Readings of this program's own structs: what can be read as data of such a type is of the kind by which the printed walks read it. No condition. (Printed by wip/tools/rowx.py.) -/
namespace Go.Proofs.YtckdocofmffheaaDoor.Pv
open Go.RowKit Go.Proofs.YtckdocofmffheaaDoorW.PrintWords
end Go.Proofs.YtckdocofmffheaaDoor.Pv
/- The law FnRules answers true at every input: a drawn rule forbids its label to the names under its prefix and to no others; what is violated is what is forbidden. No condition. -/
namespace Go.Proofs.YtckdocofmffheaaDoor.Pure
set_option linter.unusedSimpArgs false
set_option linter.unusedVariables false
open Go.RowKit Go.Proofs.YtckdocofmffheaaDoor.Q Go.Proofs.YtckdocofmffheaaDoor.Pv Go.Proofs.YtckdocofmffheaaDoorW.PrintWords Go.Proofs.YtckdocofmffheaaDoorW.PrintLast Go.Proofs.YtckdocofmffheaaDoorW.PrintMore
def drOther : ByteArray := ⟨#[111, 116, 104, 101, 114]⟩
def ruleChk (p : ByteArray) (n : Int) (a : ByteArray) : Bool := rlOk p n a && ((rlForbids p n a (p ++ ⟨#[46, 120]⟩) n drOther == (a.toList == ([] : List UInt8))) && (!(rlForbids p n a ((⟨#[122]⟩ : ByteArray) ++ p) n drOther) && decide (p.size ≤ 10)))
theorem rule_all : (drPrefixes.all fun p => ([1, 2, 3, 4, 5] : List Int).all fun n => ((⟨#[]⟩ : ByteArray) :: drAbout).all fun a => ruleChk p n a) = true := by decide +kernel
theorem rule_facts {p : ByteArray} {n : Int} {a : ByteArray} (hp : p ∈ drPrefixes) (hn : 1 ≤ n ∧ n ≤ 5) (ha : a ∈ (⟨#[]⟩ : ByteArray) :: drAbout) : ruleChk p n a = true := by
  have h1 := List.all_eq_true.1 rule_all p hp
  have hn2 : n ∈ ([1, 2, 3, 4, 5] : List Int) := by
    have : n = 1 ∨ n = 2 ∨ n = 3 ∨ n = 4 ∨ n = 5 := by omega
    rcases this with rfl | rfl | rfl | rfl | rfl <;> simp
  exact List.all_eq_true.1 (List.all_eq_true.1 h1 n hn2) a ha
theorem FnRules : ∀ (x0 : List Int), (gL (gI .u8)) x0 → ∃ k, laws_FnRules.f k x0 = some true := by
  intro code _
  refine Ev.rounds ?_
  unfold laws_FnRules.f laws_big.f
  refine Ev.some_bind (Ev.ite (fun _ => Ev.val rfl) (fun hbig => ?_))
  have hlen : code.length ≤ 140737488351232 := by
    simp only [decide_eq_true_eq] at hbig
    omega
  obtain ⟨p, n, a, hR, hp, hn, ha⟩ := ev_DrawRule code hlen
  obtain ⟨L, hL, hLl, _⟩ := ev_DrawLabels code hlen
  have hf := rule_facts hp hn ha
  simp only [ruleChk, Bool.and_eq_true, Bool.not_eq_true', beq_iff_eq, decide_eq_true_eq] at hf
  obtain ⟨hok, hdot, hz, hps⟩ := hf
  refine Ev.bnd hR (Ev.bnd hL (Ev.some_bind (Ev.pos (by simp only [List.length_nil]; omega) ?_)))
  simp only [List.nil_append]
  have hB := ev_Broken [(⟨p, n, a⟩ : S41)] p L (by omega)
  obtain ⟨q, hq⟩ : ∃ q : S30 → Bool, q = fun l => rlForbids p n a p l.f0 l.f1 := ⟨_, rfl⟩
  have hBq : brAll [(⟨p, n, a⟩ : S41)] p L = L.filter q := by
    rw [hq]
    unfold brAll
    refine List.filter_congr fun l _ => ?_
    simp [brOne]
  refine Ev.bnd hB ?_
  rw [hBq] at hB ⊢
  have loop : ∀ (d i : Nat), i + d = L.length → Ev (fun k => laws_FnRules.l0 k L (L.filter q) ((((L.take i).filter q).length : Nat) : Int) (i : Int) p n a n drOther) true := by
    intro d
    induction d with
    | zero =>
      intro i hi
      have ht : L.take i = L := List.take_of_length_le (by omega)
      rw [ht]
      refine Ev.succ ?_
      simp only [laws_FnRules.l0]
      refine Ev.neg (by omega) (Ev.pos trivial (Ev.bnd (ev_RuleOk _ _ _) (Ev.pos hok (Ev.pos (by omega) (Ev.bnd (ev_Forbids _ _ _ _ _ _) (Ev.pos (by rw [hdot]; simp) (Ev.pos (by omega) (Ev.bnd (ev_Forbids _ _ _ _ _ _) (Ev.neg (by rw [hz]; simp) (Ev.some_bind (Ev.pos (by simp only [List.length_nil]; omega) ?_)))))))))))
      simp only [List.nil_append]
      refine Ev.bnd (ev_Allowed _ _ _ (by omega)) (Ev.pos (by rw [hBq]; simp) (Ev.some_bind (Ev.pos (by simp only [List.length_nil]; omega) ?_)))
      simp only [List.nil_append]
      refine Ev.bnd (ev_Allowed _ _ _ (by omega)) (Ev.val ?_)
      have : brAll ([] : List S41) p L = [] := by
        unfold brAll
        simp
      rw [this]
      rfl
    | succ d ih =>
      intro i hi
      have hiL : i < L.length := by omega
      have hsplit : L.filter q = (L.take i).filter q ++ (L.drop i).filter q := by rw [← List.filter_append, List.take_append_drop]
      have hd : L.drop i = L[i] :: L.drop (i + 1) := List.drop_eq_getElem_cons hiL
      have htk : L.take (i + 1) = L.take i ++ [L[i]] := List.take_succ_eq_append_getElem hiL
      have hle : ((L.take i).filter q).length ≤ i := by
        have := List.length_filter_le q (L.take i)
        rw [List.length_take] at this
        omega
      refine Ev.succ ?_
      simp only [laws_FnRules.l0]
      rw [rdB_at _ _ hiL, wS i (by omega)]
      refine Ev.pos (by omega) (Ev.pos (by omega) (Ev.bnd (ev_Forbids _ _ _ _ _ _) (Ev.ite (fun hf => ?_) (fun hf => ?_))))
      · have hqi : q L[i] = true := by rw [hq]; exact hf
        have hfl : (L.drop i).filter q = L[i] :: (L.drop (i + 1)).filter q := by rw [hd, List.filter_cons_of_pos hqi]
        have hat : rd_T30 (L.filter q) ((((L.take i).filter q).length : Nat) : Int) = L[i] := by
          rw [hsplit, hfl]
          unfold rd_T30
          rw [Int.toNat_natCast, List.getD_eq_getElem?_getD, List.getElem?_append_right (Nat.le_refl _), Nat.sub_self]
          rfl
        have hlt : ((L.take i).filter q).length < (L.filter q).length := by
          rw [hsplit, hfl]
          simp
        have hkind : L[i].f0 = n := by
          have := hf
          unfold rlForbids at this
          simp only [Bool.and_eq_true, decide_eq_true_eq] at this
          exact this.2.2.1.symm
        rw [hat, wS _ (by omega)]
        refine Ev.neg (by omega) (Ev.pos (by omega) (Ev.pos (by omega) (Ev.neg (by simp) (Ev.pos hkind ?_))))
        have := ih (i + 1) (by omega)
        rw [htk, List.filter_append, List.filter_cons_of_pos hqi, List.length_append] at this
        exact this
      · have hqi : ¬ q L[i] = true := by rw [hq]; exact hf
        have := ih (i + 1) (by omega)
        rw [htk, List.filter_append, List.filter_cons_of_neg hqi] at this
        simpa using this
  have h0 := loop L.length 0 (by omega)
  have h1 : Ev (fun k => laws_FnRules.l0 k L (L.filter q) 0 0 p n a n drOther) true := by simpa using h0
  exact h1
end Go.Proofs.YtckdocofmffheaaDoor.Pure
