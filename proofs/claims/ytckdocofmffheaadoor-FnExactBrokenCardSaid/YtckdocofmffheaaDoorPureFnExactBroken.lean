/- The law FnExactBroken answers true at every input: the plain laws and the proof, folded into one text (wip/tools/fold.py). No condition. -/
import Derived.Test.YtckdocofmffheaaDoorEv
import Derived.Test.YtckdocofmffheaaDoorQ10
import Derived.Test.YtckdocofmffheaaDoorQ7
import Derived.Test.YtckdocofmffheaaDoorQ9
import Derived.Test.YtckdocofmffheaaDoorWWords
import Derived.Test.YtckdocofmffheaaDoorSl
import Derived.Test.YtckdocofmffheaaDoorQ11
import Derived.Test.YtckdocofmffheaaDoorQ12
import Derived.Test.YtckdocofmffheaaDoorQ5
import Derived.Test.YtckdocofmffheaaDoorQ6
import Derived.Test.YtckdocofmffheaaDoorQ8
import Derived.Test.YtckdocofmffheaaDoorQ0
import Derived.Test.YtckdocofmffheaaDoorQ13
import Derived.Test.YtckdocofmffheaaDoorQ14
import Derived.Test.YtckdocofmffheaaDoorQ18
import Derived.Test.YtckdocofmffheaaDoorQ1
import Derived.ChangeArms
import Derived.DataReads
import Derived.ChangeOld
import Derived.SizedLaws
import Derived.KernelRfl
import Derived.Test.YtckdocofmffheaaDoorQ2
import Derived.Test.YtckdocofmffheaaDoorQ3
import Derived.Test.YtckdocofmffheaaDoorQ4
import Derived.Test.YtckdocofmffheaaDoorQ15
import Derived.Test.YtckdocofmffheaaDoorQ16
import Derived.Test.YtckdocofmffheaaDoorQ17
/- The kinds of labels: 1 to 5, by both tests. No condition. -/
namespace Go.Proofs.YtckdocofmffheaaDoor.Pv
set_option linter.unusedSimpArgs false
set_option linter.unusedVariables false
open Go.RowKit Go.Proofs.YtckdocofmffheaaDoor.Q Go.Proofs.YtckdocofmffheaaDoorW.PrintWords Go.Proofs.YtckdocofmffheaaDoorW.PrintLast Go.Proofs.YtckdocofmffheaaDoorW.PrintMore
theorem l01In15 (n : Int) : spec_l01In.f n 1 5 = some (decide (1 ≤ n ∧ n ≤ 5)) := by
  unfold spec_l01In.f
  by_cases h : n ≥ 1
  · rw [if_pos h]
    congr 1
    rw [decide_eq_decide]
    omega
  · rw [if_neg h, decide_eq_false (by omega)]
theorem in15 (n : Int) : impl_in.f n 1 5 = some (decide (1 ≤ n ∧ n ≤ 5)) := by
  unfold impl_in.f
  by_cases h : 1 ≤ n
  · rw [if_pos h]
    congr 1
    rw [decide_eq_decide]
    omega
  · rw [if_neg h, decide_eq_false (by omega)]
theorem isKind_eq (n : Int) : impl_isLabelKind.f n = some (decide (1 ≤ n ∧ n ≤ 5)) := by
  unfold impl_isLabelKind.f
  rw [in15]
  rfl
end Go.Proofs.YtckdocofmffheaaDoor.Pv
/- Bytes of texts: what is joined, what is made of numbers, when two texts are one. No condition. -/
namespace Go.Proofs.YtckdocofmffheaaDoor.Pv
set_option linter.unusedSimpArgs false
set_option linter.unusedVariables false
open Go.RowKit Go.Proofs.YtckdocofmffheaaDoorW.PrintWords Go.Proofs.YtckdocofmffheaaDoorW.PrintLast Go.Proofs.YtckdocofmffheaaDoorW.PrintMore
theorem bl_append (a b : ByteArray) : bytesOf (a ++ b) = bytesOf a ++ bytesOf b := by
  unfold bytesOf
  rw [show (a ++ b).data = a.data ++ b.data from ByteArray.data_append, Array.toList_append, List.map_append]
theorem bl_inj {a b : ByteArray} (h : bytesOf a = bytesOf b) : a = b := by
  unfold bytesOf at h
  have h2 : a.data.toList = b.data.toList := by
    refine List.map_inj_right (f := fun b : UInt8 => (b.toNat : Int)) (fun x y e => ?_) |>.1 h
    exact UInt8.toNat_inj.1 (by exact_mod_cast e)
  cases a
  cases b
  simp only at h2
  rw [Array.toList_inj.1 h2]
theorem bl_nums {l : List Int} (h : ∀ x ∈ l, 0 ≤ x ∧ x ≤ 255) : bytesOf (strOfNums l) = l := by
  unfold bytesOf
  rw [strOfNums_data, List.map_map]
  refine (List.map_congr_left (g := id) (fun x hx => ?_)).trans (List.map_id l)
  have := h x hx
  show ((UInt8.ofNat x.toNat).toNat : Int) = x
  rw [UInt8.toNat_ofNat']
  omega
theorem bl_range (s : ByteArray) : ∀ x ∈ bytesOf s, 0 ≤ x ∧ x ≤ 255 := by
  intro x hx
  unfold bytesOf at hx
  obtain ⟨b, _, rfl⟩ := List.mem_map.1 hx
  have := b.toNat_lt
  omega
theorem nums_bl (s : ByteArray) : strOfNums (bytesOf s) = s := bl_inj (bl_nums (bl_range s))
theorem size_append (a b : ByteArray) : (a ++ b).size = a.size + b.size := ByteArray.size_append
theorem bl_toList {a b : ByteArray} (h : bytesOf a = bytesOf b) : a.toList = b.toList := by rw [bl_inj h]
theorem and255 (x : Int) : 0 ≤ Go.bits .and .i64 x 255 ∧ Go.bits .and .i64 x 255 ≤ 255 := by
  have h : (BitVec.ofInt 64 x &&& BitVec.ofInt 64 255).toNat ≤ 255 := by
    rw [BitVec.toNat_and]
    exact Nat.le_trans Nat.and_le_right (by decide)
  have e : Go.bits .and .i64 x 255 = (((BitVec.ofInt 64 x &&& BitVec.ofInt 64 255).toNat : Nat) : Int) := by
    unfold Go.bits
    show IntKind.i64.wrap (((BitVec.ofInt 64 x &&& BitVec.ofInt 64 255).toNat : Nat) : Int) = _
    rw [IntKind.wrap_i64]
    omega
  rw [e]
  omega
end Go.Proofs.YtckdocofmffheaaDoor.Pv
/- Names: texts cut at a sign and joined again; plain lists of numbers, no Go. No condition. -/
namespace Go.Proofs.YtckdocofmffheaaDoor.Pv
set_option linter.unusedSimpArgs false
set_option linter.unusedVariables false
/-- A text's parts between the signs c. -/
def cutL (c : Int) : List Int → List (List Int)
  | [] => [[]]
  | x :: l => if x = c then [] :: cutL c l else
    match cutL c l with
    | [] => [[x]]
    | p :: ps => (x :: p) :: ps
def joinL (c : Int) : List (List Int) → List Int
  | [] => []
  | [p] => p
  | p :: q :: ps => p ++ c :: joinL c (q :: ps)
theorem cutL_ne (c : Int) (l : List Int) : cutL c l ≠ [] := by
  cases l with
  | nil => simp [cutL]
  | cons x l =>
    simp only [cutL]
    split
    · simp
    · split <;> simp
/-- What stands ahead of a text's first part. -/
def ahead (p : List Int) : List (List Int) → List (List Int)
  | [] => [p]
  | q :: qs => (p ++ q) :: qs
theorem ahead_nil {ps : List (List Int)} (h : ps ≠ []) : ahead [] ps = ps := by
  cases ps with
  | nil => exact absurd rfl h
  | cons q qs => rfl
theorem cutL_other (c x : Int) (l : List Int) (h : x ≠ c) : cutL c (x :: l) = ahead [x] (cutL c l) := by
  simp only [cutL]
  rw [if_neg h]
  cases e : cutL c l with
  | nil => rfl
  | cons p ps => rfl
theorem ahead_ahead (p q : List Int) (ps : List (List Int)) (h : ps ≠ []) : ahead p (ahead q ps) = ahead (p ++ q) ps := by
  cases ps with
  | nil => exact absurd rfl h
  | cons r rs => simp [ahead]
theorem cutL_here (c : Int) (l : List Int) : cutL c (c :: l) = [] :: cutL c l := by
  simp [cutL]
theorem cutL_free (c : Int) (p l : List Int) (h : c ∉ p) : cutL c (p ++ l) = ahead p (cutL c l) := by
  induction p with
  | nil => exact (ahead_nil (cutL_ne c l)).symm
  | cons x p ih =>
    rw [List.cons_append, cutL_other c x _ (fun e => h (by simp [e])), ih (fun hm => h (by simp [hm])), ahead_ahead _ _ _ (cutL_ne c l)]
    rfl
theorem cutL_first (c : Int) (p l : List Int) (h : c ∉ p) : cutL c (p ++ c :: l) = p :: cutL c l := by
  rw [cutL_free c p _ h, cutL_here]
  simp [ahead]
theorem cutL_none (c : Int) (p : List Int) (h : c ∉ p) : cutL c p = [p] := by
  have := cutL_free c p [] h
  rw [List.append_nil] at this
  rw [this]
  simp [cutL, ahead]
theorem cutL_length (c : Int) (l : List Int) : (cutL c l).length = l.count c + 1 := by
  induction l with
  | nil => rfl
  | cons x l ih =>
    by_cases h : x = c
    · subst h
      rw [cutL_here, List.length_cons, ih, List.count_cons_self]
    · rw [cutL_other c x l h, List.count_cons_of_ne h]
      cases e : cutL c l with
      | nil => exact absurd e (cutL_ne c l)
      | cons p ps =>
        rw [e] at ih
        simpa [ahead] using ih
theorem joinL_ahead (c : Int) (p : List Int) (ps : List (List Int)) (h : ps ≠ []) : joinL c (ahead p ps) = p ++ joinL c ps := by
  rcases ps with _ | ⟨q, _ | ⟨r, rs⟩⟩
  · exact absurd rfl h
  · rfl
  · simp [ahead, joinL]
theorem join_cut (c : Int) (l : List Int) : joinL c (cutL c l) = l := by
  induction l with
  | nil => rfl
  | cons x l ih =>
    by_cases h : x = c
    · subst h
      rw [cutL_here]
      cases e : cutL x l with
      | nil => exact absurd e (cutL_ne x l)
      | cons p ps =>
        rw [e] at ih
        simp only [joinL, List.nil_append, ih]
    · rw [cutL_other c x l h, joinL_ahead c _ _ (cutL_ne c l), ih]
      rfl
theorem cutL_append (c : Int) (p m : List Int) : cutL c (p ++ c :: m) = cutL c p ++ cutL c m := by
  induction p with
  | nil => rw [List.nil_append, cutL_here]; rfl
  | cons x p ih =>
    by_cases h : x = c
    · subst h
      rw [List.cons_append, cutL_here, cutL_here, ih]
      rfl
    · rw [List.cons_append, cutL_other c x _ h, cutL_other c x _ h, ih]
      cases e : cutL c p with
      | nil => exact absurd e (cutL_ne c p)
      | cons q qs => rfl
theorem join_append (c : Int) (ps qs : List (List Int)) (hp : ps ≠ []) (hq : qs ≠ []) : joinL c (ps ++ qs) = joinL c ps ++ c :: joinL c qs := by
  induction ps with
  | nil => exact absurd rfl hp
  | cons p ps ih =>
    cases ps with
    | nil =>
      cases qs with
      | nil => exact absurd rfl hq
      | cons q qs => rfl
    | cons p2 ps =>
      have := ih (by simp)
      simp only [List.cons_append] at this ⊢
      simp only [joinL]
      rw [this]
      simp
/-- One text's parts begin another's just where it is the other, or stands ahead of the sign in it. -/
theorem cut_prefix (c : Int) (p n : List Int) : cutL c p <+: cutL c n ↔ p = n ∨ (p ++ [c]) <+: n := by
  constructor
  · rintro ⟨r, hr⟩
    cases r with
    | nil =>
      left
      rw [List.append_nil] at hr
      rw [← join_cut c p, ← join_cut c n, hr]
    | cons q qs =>
      right
      refine ⟨joinL c (q :: qs), ?_⟩
      have := congrArg (joinL c) hr
      rw [join_append c _ _ (cutL_ne c p) (by simp), join_cut, join_cut] at this
      rw [List.append_assoc]
      exact this
  · rintro (rfl | ⟨r, rfl⟩)
    · exact List.prefix_refl _
    · rw [List.append_assoc]
      exact ⟨cutL c r, (cutL_append c p r).symm⟩
def isLow (x : Int) : Bool := decide (97 ≤ x ∧ x ≤ 122)
def isDig (x : Int) : Bool := decide (48 ≤ x ∧ x ≤ 57)
/-- A part of a name. -/
def partOk : List Int → Bool
  | [] => false
  | x :: l => isLow x && (x :: l).all fun y => isLow y || isDig y
def nameOk (l : List Int) : Bool := decide (l.length ≤ 40) && (decide ((cutL 46 l).length ≤ 5) && (cutL 46 l).all partOk)
end Go.Proofs.YtckdocofmffheaaDoor.Pv
/- What the Go functions on names come to: strings.Split at '.', the reference's cut, NameOk. No condition beyond the sizes. -/
namespace Go.Proofs.YtckdocofmffheaaDoor.Pv
set_option linter.unusedSimpArgs false
set_option linter.unusedVariables false
open Go.RowKit Go.Proofs.YtckdocofmffheaaDoor.Q Go.Proofs.YtckdocofmffheaaDoorW.PrintWords Go.Proofs.YtckdocofmffheaaDoorW.PrintLast Go.Proofs.YtckdocofmffheaaDoorW.PrintMore
theorem idx_spec (l : List UInt8) (c : UInt8) : (Lib.indexByte l c = -1 ∧ c ∉ l) ∨ ∃ m : Nat, Lib.indexByte l c = (m : Int) ∧ m < l.length ∧ l = l.take m ++ c :: l.drop (m + 1) ∧ c ∉ l.take m := by
  induction l with
  | nil => exact .inl ⟨rfl, by simp⟩
  | cons b l ih =>
    by_cases h : b = c
    · subst h
      refine .inr ⟨0, ?_, by simp, by simp, by simp⟩
      simp [Lib.indexByte]
    · rcases ih with ⟨h1, h2⟩ | ⟨m, h1, h2, h3, h4⟩
      · refine .inl ⟨?_, ?_⟩
        · unfold Lib.indexByte
          rw [if_neg (by simpa using h), if_pos (by simpa using h1)]
        · simp only [List.mem_cons, not_or]
          exact ⟨fun e => h e.symm, h2⟩
      · refine .inr ⟨m + 1, ?_, by simpa using h2, ?_, ?_⟩
        · unfold Lib.indexByte
          rw [if_neg (by simpa using h), h1, if_neg (fun e => by have := beq_iff_eq.1 e; omega)]
          rfl
        · simpa using h3
        · simp only [List.take_succ_cons, List.mem_cons, not_or]
          exact ⟨fun e => h e.symm, h4⟩
theorem idx_bytes (s : ByteArray) (c : UInt8) : (Lib.indexByte s.data.toList c = -1 ∧ ((c.toNat : Nat) : Int) ∉ bytesOf s) ∨
    ∃ m : Nat, Lib.indexByte s.data.toList c = (m : Int) ∧ m < s.size ∧ bytesOf s = (bytesOf s).take m ++ ((c.toNat : Nat) : Int) :: (bytesOf s).drop (m + 1) ∧ ((c.toNat : Nat) : Int) ∉ (bytesOf s).take m := by
  have inj : ∀ l : List UInt8, ((c.toNat : Nat) : Int) ∈ l.map (fun b => ((b.toNat : Nat) : Int)) → c ∈ l := by
    intro l h
    obtain ⟨b, hb, e⟩ := List.mem_map.1 h
    have : b = c := UInt8.toNat_inj.1 (by exact_mod_cast e)
    exact this ▸ hb
  rcases idx_spec s.data.toList c with ⟨h1, h2⟩ | ⟨m, h1, h2, h3, h4⟩
  · exact .inl ⟨h1, fun h => h2 (inj _ h)⟩
  · refine .inr ⟨m, h1, by rw [Array.length_toList] at h2; exact h2, ?_, ?_⟩
    · unfold bytesOf
      rw [← List.map_take, ← List.map_drop]
      conv => lhs; rw [h3]
      simp
    · unfold bytesOf
      rw [← List.map_take]
      exact fun h => h4 (inj _ h)
theorem bl_extract (s : ByteArray) (a b : Nat) : bytesOf (s.extract a b) = ((bytesOf s).drop a).take (b - a) := by
  unfold bytesOf
  rw [Lib.extract_data, List.map_take, List.map_drop]
theorem toList_nil (s : ByteArray) : s.toList = [] ↔ bytesOf s = [] := by
  rw [ByteArray.toList_eq]
  unfold bytesOf
  rw [List.map_eq_nil_iff]
theorem take_set_succ {α : Type} (l : List α) (i : Nat) (x : α) (h : i < l.length) : (l.set i x).take (i + 1) = l.take i ++ [x] := by
  rw [List.take_succ_eq_append_getElem (by simpa using h), List.take_set_of_le (Nat.le_refl i)]
  simp
theorem countByte_bytes (s : ByteArray) (c : UInt8) : Lib.countByte s.data.toList c = (bytesOf s).count ((c.toNat : Nat) : Int) := by
  unfold bytesOf Lib.countByte
  generalize s.data.toList = l
  induction l with
  | nil => rfl
  | cons b l ih =>
    rw [List.map_cons, List.count_cons, List.count_cons, ih]
    have hb : (b == c) = (((b.toNat : Nat) : Int) == ((c.toNat : Nat) : Int)) := by
      rw [Bool.eq_iff_iff, beq_iff_eq, beq_iff_eq]
      constructor
      · rintro rfl
        rfl
      · intro h
        exact UInt8.toNat_inj.1 (by exact_mod_cast h)
    rw [hb]
theorem splitB_cut (c : UInt8) : ∀ (d : Nat) (s : ByteArray), (bytesOf s).count ((c.toNat : Nat) : Int) = d → (Lib.splitB ⟨#[c]⟩ 0 d s).map bytesOf = cutL ((c.toNat : Nat) : Int) (bytesOf s) := by
  intro d
  induction d with
  | zero =>
    intro s hd
    rw [Lib.splitB_zero, cutL_none _ _ (List.count_eq_zero.1 hd)]
    rfl
  | succ d ih =>
    intro s hd
    have hm : ((c.toNat : Nat) : Int) ∈ bytesOf s := List.count_pos_iff.1 (by omega)
    rcases idx_bytes s c with ⟨_, h2⟩ | ⟨m, h1, h2, h3, h4⟩
    · exact absurd hm h2
    have hc : ((bytesOf s).drop (m + 1)).count ((c.toNat : Nat) : Int) = d := by
      rw [h3, List.count_append, List.count_cons_self, List.count_eq_zero.2 h4] at hd
      omega
    have hb2 : bytesOf (s.extract (m + 1) s.size) = (bytesOf s).drop (m + 1) := by
      rw [bl_extract, List.take_of_length_le (by rw [List.length_drop, bl_length]; omega)]
    have hi : Lib.indexB s ⟨#[c]⟩ = (m : Int) := (Lib.index_one s.data.toList c).trans h1
    rw [Lib.splitB_hit ⟨#[c]⟩ 0 d s m hi, List.map_cons]
    have e := ih (s.extract (m + 1) s.size) (by rw [hb2]; exact hc)
    have e2 : (Lib.splitB ⟨#[c]⟩ 0 d (s.extract (m + (⟨#[c]⟩ : ByteArray).size) s.size)).map bytesOf = cutL ((c.toNat : Nat) : Int) (bytesOf (s.extract (m + 1) s.size)) := e
    rw [e2, hb2, bl_extract, List.drop_zero, Nat.sub_zero]
    conv => rhs; rw [h3, cutL_first _ _ _ h4]
    rfl
theorem split_any (c : UInt8) (s : ByteArray) (hs : s.size ≤ 4294967000) : ∃ r, strings_Split.f s ⟨#[c]⟩ = some r ∧ r.map bytesOf = cutL ((c.toNat : Nat) : Int) (bytesOf s) := by
  have hcount : Lib.countB s ⟨#[c]⟩ = (bytesOf s).count ((c.toNat : Nat) : Int) := (Lib.count_one c s.data.toList).trans (countByte_bytes s c)
  have hcl : (bytesOf s).count ((c.toNat : Nat) : Int) ≤ s.size := by
    rw [← bl_length]
    exact List.count_le_length
  refine ⟨Lib.splitB ⟨#[c]⟩ 0 ((bytesOf s).count ((c.toNat : Nat) : Int)) s, ?_, splitB_cut c _ s rfl⟩
  unfold strings_Split.f
  have e : strings_genSplit.f s ⟨#[c]⟩ 0 (-1) = some (Lib.splitB ⟨#[c]⟩ 0 ((bytesOf s).count ((c.toNat : Nat) : Int)) s) := by
    show (if (0 : Int) = 0 ∧ (-1 : Int) = -1 ∧ s.size < 4294967281 then some (Lib.splitB ⟨#[c]⟩ 0 (min (Lib.countB s ⟨#[c]⟩ + 1) (s.size + 1) - 1) s) else none) = _
    rw [if_pos ⟨rfl, rfl, by omega⟩, hcount, show min ((bytesOf s).count ((c.toNat : Nat) : Int) + 1) (s.size + 1) - 1 = (bytesOf s).count ((c.toNat : Nat) : Int) from by omega]
  rw [e]
  rfl
theorem split_dot (s : ByteArray) (hs : s.size ≤ 4294967000) : ∃ r, strings_Split.f s ⟨#[46]⟩ = some r ∧ r.map bytesOf = cutL 46 (bytesOf s) := split_any 46 s hs
theorem cut_l0 (s : ByteArray) (hs : s.size ≤ 1048576) (c : Int) : ∀ (d b i : Nat) (out : List ByteArray), i + d = s.size → b ≤ i → out.length ≤ i → c ∉ ((bytesOf s).drop b).take (i - b) →
    ∃ r, Ev (fun k => spec_l02Cut.l0 k s c out (b : Int) (i : Int)) r ∧ r.map bytesOf = out.map bytesOf ++ ahead (((bytesOf s).drop b).take (i - b)) (cutL c ((bytesOf s).drop i)) := by
  intro d
  induction d with
  | zero =>
    intro b i out hi hb ho hf
    refine ⟨out ++ [s.extract b i], Ev.succ ?_, ?_⟩
    · simp only [spec_l02Cut.l0]
      refine Ev.pos (by omega) (Ev.pos (by omega) (Ev.pos (by omega) (Ev.pos (by omega) (Ev.pos (by omega) (Ev.succ ?_)))))
      rw [wS i (by omega)]
      simp only [spec_l02Cut.l0]
      refine Ev.neg (by omega) (Ev.val ?_)
      rw [Int.toNat_natCast, Int.toNat_natCast]
    · rw [List.map_append]
      congr 1
      have : (bytesOf s).drop i = [] := by rw [List.drop_eq_nil_iff, bl_length]; omega
      rw [this]
      simp [cutL, ahead, bl_extract]
  | succ d ih =>
    intro b i out hi hb ho hf
    have hlt : i < s.size := by omega
    by_cases he : bt s (i : Int) = c
    · obtain ⟨r, hev, hr⟩ := ih (i + 1) (i + 1) (out ++ [s.extract b i]) (by omega) (by omega) (by simp; omega) (by simp)
      refine ⟨r, Ev.succ ?_, ?_⟩
      · simp only [spec_l02Cut.l0]
        refine Ev.pos (by omega) (Ev.neg (by omega) (Ev.pos (by omega) (Ev.pos (by omega) (Ev.pos he (Ev.pos (by omega) (Ev.pos (by omega) (Ev.pos (by omega) ?_)))))))
        rw [wS i (by omega), Int.toNat_natCast, Int.toNat_natCast]
        exact hev
      · rw [hr, bl_drop s i hlt, he, cutL_here, List.map_append, Nat.sub_self, List.take_zero, ahead_nil (cutL_ne c _), List.append_assoc]
        congr 1
        simp [ahead, bl_extract]
    · have e1 : ((bytesOf s).drop b).take (i + 1 - b) = ((bytesOf s).drop b).take (i - b) ++ [bt s (i : Int)] := by
        rw [show i + 1 - b = (i - b) + 1 from by omega, List.take_succ_eq_append_getElem (by rw [List.length_drop, bl_length]; omega), List.getElem_drop, bt_at s i hlt]
        congr 2
        congr 1
        omega
      obtain ⟨r, hev, hr⟩ := ih b (i + 1) out (by omega) (by omega) (by omega) (by
        rw [e1, List.mem_append, List.mem_singleton]
        rintro (h | h)
        · exact hf h
        · exact he h.symm)
      refine ⟨r, Ev.succ ?_, ?_⟩
      · simp only [spec_l02Cut.l0]
        refine Ev.pos (by omega) (Ev.neg (by omega) (Ev.pos (by omega) (Ev.pos (by omega) (Ev.neg he ?_))))
        rw [wS i (by omega)]
        exact hev
      · rw [hr, e1, bl_drop s i hlt, cutL_other c _ _ he, ahead_ahead _ _ _ (cutL_ne c _)]
theorem ev_Cut (s : ByteArray) (hs : s.size ≤ 1048576) (c : Int) : ∃ r, Ev (fun k => spec_l02Cut.f k s c) r ∧ r.map bytesOf = cutL c (bytesOf s) := by
  obtain ⟨r, he, hr⟩ := cut_l0 s hs c s.size 0 0 [] (by omega) (by omega) (by simp) (by simp)
  refine ⟨r, he, ?_⟩
  rw [hr]
  simp [ahead_nil (cutL_ne c _)]
/-! parts of names -/
theorem low_dig_ok (x : Int) : (isLow x || isDig x) = true ↔ (97 ≤ x ∧ x ≤ 122) ∨ (48 ≤ x ∧ x ≤ 57) := by
  unfold isLow isDig
  simp
theorem part_impl_l0 (s : ByteArray) (hs : s.size ≤ 140737488351232) : ∀ (d i : Nat), i + d = s.size → Ev (fun k => impl_isNamePart.l0 k s (s.size : Int) (i : Int)) (((bytesOf s).drop i).all fun y => isLow y || isDig y) := by
  intro d
  induction d with
  | zero =>
    intro i h
    refine Ev.succ ?_
    simp only [impl_isNamePart.l0]
    refine Ev.neg (by omega) (Ev.val ?_)
    have : (bytesOf s).drop i = [] := by rw [List.drop_eq_nil_iff, bl_length]; omega
    rw [this]
    rfl
  | succ d ih =>
    intro i h
    have hi : i < s.size := by omega
    refine Ev.succ ?_
    simp only [impl_isNamePart.l0]
    refine Ev.pos (by omega) (Ev.pos (by omega) (Ev.pos (by omega) ?_))
    rw [wS i (by omega), bl_drop s i hi, List.all_cons]
    have yes : (isLow (bt s (i : Int)) || isDig (bt s (i : Int))) = true → Ev (fun k => impl_isNamePart.l0 k s (s.size : Int) ((i + 1 : Nat) : Int)) ((isLow (bt s (i : Int)) || isDig (bt s (i : Int))) && ((bytesOf s).drop (i + 1)).all fun y => isLow y || isDig y) := by
      intro hy
      rw [hy, Bool.true_and]
      exact ih (i + 1) (by omega)
    have no : ¬ ((97 ≤ bt s (i : Int) ∧ bt s (i : Int) ≤ 122) ∨ (48 ≤ bt s (i : Int) ∧ bt s (i : Int) ≤ 57)) → Ev (fun _ : Nat => some false) ((isLow (bt s (i : Int)) || isDig (bt s (i : Int))) && ((bytesOf s).drop (i + 1)).all fun y => isLow y || isDig y) := by
      intro hn
      have : (isLow (bt s (i : Int)) || isDig (bt s (i : Int))) = false := by
        rw [Bool.eq_false_iff]
        exact fun e => hn ((low_dig_ok _).1 e)
      rw [this]
      exact Ev.val rfl
    refine Ev.ite (fun h1 => Ev.ite (fun h2 => no (by omega)) (fun h2 => Ev.ite (fun h3 => no (by omega)) (fun h3 => yes ((low_dig_ok _).2 (by omega))))) (fun h1 => Ev.ite (fun h2 => Ev.ite (fun h3 => no (by omega)) (fun h3 => Ev.ite (fun h4 => no (by omega)) (fun h4 => yes ((low_dig_ok _).2 (by omega))))) (fun h2 => yes ((low_dig_ok _).2 (by omega))))
theorem part_spec_l0 (s : ByteArray) (hs : s.size ≤ 140737488351232) : ∀ (d i : Nat), i + d = s.size → Ev (fun k => spec_l02Part.l0 k s (i : Int)) (((bytesOf s).drop i).all fun y => isLow y || isDig y) := by
  intro d
  induction d with
  | zero =>
    intro i h
    refine Ev.succ ?_
    simp only [spec_l02Part.l0]
    refine Ev.neg (by omega) (Ev.val ?_)
    have : (bytesOf s).drop i = [] := by rw [List.drop_eq_nil_iff, bl_length]; omega
    rw [this]
    rfl
  | succ d ih =>
    intro i h
    have hi : i < s.size := by omega
    refine Ev.succ ?_
    simp only [spec_l02Part.l0]
    refine Ev.pos (by omega) (Ev.pos (by omega) ?_)
    rw [wS i (by omega), bl_drop s i hi, List.all_cons]
    have yes : (isLow (bt s (i : Int)) || isDig (bt s (i : Int))) = true → Ev (fun k => spec_l02Part.l0 k s ((i + 1 : Nat) : Int)) ((isLow (bt s (i : Int)) || isDig (bt s (i : Int))) && ((bytesOf s).drop (i + 1)).all fun y => isLow y || isDig y) := by
      intro hy
      rw [hy, Bool.true_and]
      exact ih (i + 1) (by omega)
    have no : ¬ ((97 ≤ bt s (i : Int) ∧ bt s (i : Int) ≤ 122) ∨ (48 ≤ bt s (i : Int) ∧ bt s (i : Int) ≤ 57)) → Ev (fun _ : Nat => some false) ((isLow (bt s (i : Int)) || isDig (bt s (i : Int))) && ((bytesOf s).drop (i + 1)).all fun y => isLow y || isDig y) := by
      intro hn
      have : (isLow (bt s (i : Int)) || isDig (bt s (i : Int))) = false := by
        rw [Bool.eq_false_iff]
        exact fun e => hn ((low_dig_ok _).1 e)
      rw [this]
      exact Ev.val rfl
    refine Ev.ite (fun h1 => Ev.ite (fun h2 => yes ((low_dig_ok _).2 (by omega))) (fun h2 => Ev.ite (fun h3 => Ev.ite (fun h4 => yes ((low_dig_ok _).2 (by omega))) (fun h4 => no (by omega))) (fun h3 => no (by omega)))) (fun h1 => Ev.ite (fun h2 => Ev.ite (fun h3 => yes ((low_dig_ok _).2 (by omega))) (fun h3 => no (by omega))) (fun h2 => no (by omega)))
theorem partOk_at (s : ByteArray) (h : 0 < s.size) : partOk (bytesOf s) = (isLow (bt s 0) && (bytesOf s).all fun y => isLow y || isDig y) := by
  have e := bl_drop s 0 h
  rw [List.drop_zero] at e
  rw [e]
  rfl
theorem ev_isNamePart (s : ByteArray) (hs : s.size ≤ 140737488351232) : Ev (fun k => impl_isNamePart.f k s) (partOk (bytesOf s)) := by
  unfold impl_isNamePart.f
  by_cases h0 : s.size = 0
  · have hb : bytesOf s = [] := by rw [← List.length_eq_zero_iff, bl_length]; exact h0
    refine Ev.pos ((toList_nil s).2 hb) (Ev.succ ?_)
    simp only [impl_isNamePart.j0]
    refine Ev.pos (by simp) (Ev.val ?_)
    rw [hb]
    rfl
  · refine Ev.neg (fun e => h0 ?_) (Ev.pos (by omega) ?_)
    · rw [← bl_length, (toList_nil s).1 e]
      rfl
    · rw [partOk_at s (by omega)]
      have all := part_impl_l0 s hs s.size 0 (by omega)
      rw [List.drop_zero] at all
      refine Ev.ite (fun h1 => Ev.succ ?_) (fun h1 => Ev.succ ?_)
      · simp only [impl_isNamePart.j0]
        refine Ev.pos (by simp) (Ev.val ?_)
        unfold isLow
        rw [decide_eq_false (by omega)]
        rfl
      · simp only [impl_isNamePart.j0]
        by_cases h2 : bt s 0 > 122
        · refine Ev.pos (by simpa using h2) (Ev.val ?_)
          unfold isLow
          rw [decide_eq_false (by omega)]
          rfl
        · refine Ev.neg (by simpa using h2) (Ev.cast all ?_)
          rw [show isLow (bt s 0) = true from decide_eq_true (by omega), Bool.true_and]
theorem ev_l02Part (s : ByteArray) (hs : s.size ≤ 140737488351232) : Ev (fun k => spec_l02Part.f k s) (partOk (bytesOf s)) := by
  unfold spec_l02Part.f
  by_cases h0 : s.size = 0
  · have hb : bytesOf s = [] := by rw [← List.length_eq_zero_iff, bl_length]; exact h0
    refine Ev.pos (by omega) (Ev.succ ?_)
    simp only [spec_l02Part.j0]
    refine Ev.pos (by simp) (Ev.val ?_)
    rw [hb]
    rfl
  · refine Ev.neg (by omega) (Ev.pos (by omega) ?_)
    rw [partOk_at s (by omega)]
    have all := part_spec_l0 s hs s.size 0 (by omega)
    rw [List.drop_zero] at all
    refine Ev.ite (fun h1 => Ev.succ ?_) (fun h1 => Ev.succ ?_)
    · simp only [spec_l02Part.j0]
      refine Ev.pos (by simp) (Ev.val ?_)
      unfold isLow
      rw [decide_eq_false (by omega)]
      rfl
    · simp only [spec_l02Part.j0]
      by_cases h2 : bt s 0 > 122
      · refine Ev.pos (by simpa using h2) (Ev.val ?_)
        unfold isLow
        rw [decide_eq_false (by omega)]
        rfl
      · refine Ev.neg (by simpa using h2) (Ev.cast all ?_)
        rw [show isLow (bt s 0) = true from decide_eq_true (by omega), Bool.true_and]
theorem index_part (xs : List ByteArray) (hx : xs.length ≤ 140737488351232) (hz : ∀ x ∈ xs, x.size ≤ 140737488351232) : ∀ (d i : Nat), i + d = xs.length → ∃ r : Int, Ev (fun k => slices_IndexFunc_string_string_at_impl_NameOk_1.l0 k xs (xs.length : Int) (i : Int)) r ∧ (decide (r ≥ 0) = !((xs.drop i).all fun x => partOk (bytesOf x))) := by
  intro d
  induction d with
  | zero =>
    intro i h
    refine ⟨-1, Ev.succ ?_, ?_⟩
    · simp only [slices_IndexFunc_string_string_at_impl_NameOk_1.l0]
      exact Ev.neg (by omega) (Ev.val rfl)
    · rw [List.drop_eq_nil_iff.2 (by omega)]
      rfl
  | succ d ih =>
    intro i h
    have hi : i < xs.length := by omega
    rw [List.drop_eq_getElem_cons hi]
    obtain ⟨r, he, hr⟩ := ih (i + 1) (by omega)
    have hp := ev_isNamePart xs[i] (hz _ (List.getElem_mem hi))
    cases hb : partOk (bytesOf xs[i])
    · refine ⟨(i : Int), Ev.succ ?_, ?_⟩
      · simp only [slices_IndexFunc_string_string_at_impl_NameOk_1.l0]
        refine Ev.pos (by omega) (Ev.pos (by omega) (Ev.pos (by omega) ?_))
        rw [rdOf_at _ xs i hi]
        unfold impl_NameOk_1.f
        rw [hb] at hp
        exact Ev.bnd (a := true) (Ev.bnd hp (Ev.val rfl)) (Ev.pos rfl (Ev.val rfl))
      · rw [List.all_cons, hb, Bool.false_and, decide_eq_true (by omega)]
        rfl
    · refine ⟨r, Ev.succ ?_, ?_⟩
      · simp only [slices_IndexFunc_string_string_at_impl_NameOk_1.l0]
        refine Ev.pos (by omega) (Ev.pos (by omega) (Ev.pos (by omega) ?_))
        rw [rdOf_at _ xs i hi]
        unfold impl_NameOk_1.f
        rw [hb] at hp
        refine Ev.bnd (a := false) (Ev.bnd hp (Ev.val rfl)) (Ev.neg (by simp) ?_)
        rw [wS i (by omega)]
        exact he
      · rw [hr, List.all_cons, hb, Bool.true_and]
theorem map_all {xs : List ByteArray} {ps : List (List Int)} (h : xs.map bytesOf = ps) : (xs.all fun x => partOk (bytesOf x)) = ps.all partOk := by
  rw [← h, List.all_map]
  rfl
theorem cut_sizes {s : ByteArray} {xs : List ByteArray} (h : xs.map bytesOf = cutL 46 (bytesOf s)) : ∀ x ∈ xs, x.size ≤ s.size := by
  have key : ∀ (c : Int) (l : List Int), ∀ p ∈ cutL c l, p.length ≤ l.length := by
    intro c l
    induction l with
    | nil =>
      intro p hp
      simp [cutL] at hp
      simp [hp]
    | cons x l ih =>
      intro p hp
      by_cases hx : x = c
      · rw [hx, cutL_here] at hp
        rcases List.mem_cons.1 hp with rfl | hp
        · simp
        · have := ih p hp
          simp
          omega
      · rw [cutL_other c x l hx] at hp
        cases e : cutL c l with
        | nil => exact absurd e (cutL_ne c l)
        | cons q qs =>
          rw [e] at hp ih
          rcases List.mem_cons.1 hp with rfl | hp
          · have := ih q (by simp)
            simp
            omega
          · have := ih p (by simp [hp])
            simp
            omega
  intro x hx
  have := key 46 (bytesOf s) (bytesOf x) (by rw [← h]; exact List.mem_map_of_mem hx)
  rwa [bl_length, bl_length] at this
theorem ev_NameOk (s : ByteArray) : Ev (fun k => impl_NameOk.f k s) (nameOk (bytesOf s)) := by
  unfold impl_NameOk.f nameOk
  rw [bl_length]
  by_cases h40 : (s.size : Int) > 40
  · refine Ev.pos h40 (Ev.val ?_)
    rw [decide_eq_false (by omega)]
    rfl
  refine Ev.neg h40 ?_
  rw [decide_eq_true (show s.size ≤ 40 by omega), Bool.true_and]
  obtain ⟨r, he, hr⟩ := split_dot s (by omega)
  have hlen : r.length = (cutL 46 (bytesOf s)).length := by rw [← hr, List.length_map]
  have hcl : (bytesOf s).count 46 ≤ s.size := by
    rw [← bl_length]
    exact List.count_le_length
  have hl2 := cutL_length 46 (bytesOf s)
  rw [he]
  refine Ev.some_bind ?_
  rw [← hlen]
  by_cases h5 : r.length ≤ 5
  · refine Ev.pos (by omega) ?_
    rw [decide_eq_true h5, Bool.true_and]
    unfold slices_ContainsFunc_string_string_at_impl_NameOk_1.f slices_IndexFunc_string_string_at_impl_NameOk_1.f
    obtain ⟨q, hq, hd⟩ := index_part r (by omega) (fun x hx => Nat.le_trans (cut_sizes hr x hx) (by omega)) r.length 0 (by omega)
    rw [List.drop_zero, map_all hr] at hd
    exact Ev.bnd (Ev.bnd hq (Ev.val rfl)) (Ev.val (by rw [hd, Bool.not_not]))
  · refine Ev.neg (by omega) (Ev.val ?_)
    rw [decide_eq_false h5]
    rfl
theorem spec_nameOk_l0 (xs : List ByteArray) (hx : xs.length ≤ 140737488351232) (hz : ∀ x ∈ xs, x.size ≤ 140737488351232) : ∀ (d i : Nat), i + d = xs.length → Ev (fun k => spec_NameOk.l0 k xs (i : Int)) ((xs.drop i).all fun x => partOk (bytesOf x)) := by
  intro d
  induction d with
  | zero =>
    intro i h
    refine Ev.succ ?_
    simp only [spec_NameOk.l0]
    refine Ev.neg (by omega) (Ev.val ?_)
    rw [List.drop_eq_nil_iff.2 (by omega)]
    rfl
  | succ d ih =>
    intro i h
    have hi : i < xs.length := by omega
    refine Ev.succ ?_
    simp only [spec_NameOk.l0]
    refine Ev.pos (by omega) (Ev.pos (by omega) ?_)
    rw [rdOf_at _ xs i hi, List.drop_eq_getElem_cons hi, List.all_cons]
    refine Ev.bnd (ev_l02Part xs[i] (hz _ (List.getElem_mem hi))) ?_
    cases hb : partOk (bytesOf xs[i])
    · exact Ev.neg (by simp) (Ev.val rfl)
    · refine Ev.pos rfl ?_
      rw [wS i (by omega), Bool.true_and]
      exact ih (i + 1) (by omega)
theorem ev_spec_NameOk (s : ByteArray) : Ev (fun k => spec_NameOk.f k s) (nameOk (bytesOf s)) := by
  unfold spec_NameOk.f nameOk
  rw [bl_length]
  by_cases h40 : (s.size : Int) > 40
  · refine Ev.pos h40 (Ev.val ?_)
    rw [decide_eq_false (by omega)]
    rfl
  refine Ev.neg h40 ?_
  rw [decide_eq_true (show s.size ≤ 40 by omega), Bool.true_and]
  obtain ⟨r, he, hr⟩ := ev_Cut s (by omega) 46
  have hlen : r.length = (cutL 46 (bytesOf s)).length := by rw [← hr, List.length_map]
  have hcl : (bytesOf s).count 46 ≤ s.size := by
    rw [← bl_length]
    exact List.count_le_length
  have hl2 := cutL_length 46 (bytesOf s)
  refine Ev.bnd he ?_
  rw [← hlen]
  by_cases h5 : r.length ≤ 5
  · refine Ev.neg (by omega) ?_
    rw [decide_eq_true h5, Bool.true_and, ← map_all hr]
    have := spec_nameOk_l0 r (by omega) (fun x hx => Nat.le_trans (cut_sizes hr x hx) (by omega)) r.length 0 (by omega)
    rwa [List.drop_zero] at this
  · refine Ev.pos (by omega) (Ev.val ?_)
    rw [decide_eq_false h5]
    rfl
end Go.Proofs.YtckdocofmffheaaDoor.Pv
/- What the Go function Under comes to, of the program and of the reference. No condition beyond the sizes. -/
namespace Go.Proofs.YtckdocofmffheaaDoor.Pv
set_option linter.unusedSimpArgs false
set_option linter.unusedVariables false
open Go.RowKit Go.Proofs.YtckdocofmffheaaDoor.Q Go.Proofs.YtckdocofmffheaaDoorW.PrintWords Go.Proofs.YtckdocofmffheaaDoorW.PrintLast Go.Proofs.YtckdocofmffheaaDoorW.PrintMore
theorem toList_inj {a b : ByteArray} : a.toList = b.toList ↔ a = b := by
  rw [ByteArray.toList_eq, ByteArray.toList_eq]
  constructor
  · intro h
    cases a
    cases b
    simp only at h
    rw [Array.toList_inj.1 h]
  · rintro rfl
    rfl
theorem map_bl_inj : ∀ {xs ys : List ByteArray}, xs.map bytesOf = ys.map bytesOf → xs = ys
  | [], [], _ => rfl
  | [], _ :: _, h => by simp at h
  | _ :: _, [], h => by simp at h
  | x :: xs, y :: ys, h => by
    simp only [List.map_cons, List.cons.injEq] at h
    rw [bl_inj h.1, map_bl_inj h.2]
theorem nameOk_size {s : ByteArray} (h : nameOk (bytesOf s) = true) : s.size ≤ 40 := by
  unfold nameOk at h
  rw [Bool.and_eq_true] at h
  have := of_decide_eq_true h.1
  rwa [bl_length] at this
/-- The parts of a name, of the reference. -/
theorem ev_spec_parts (s : ByteArray) : ∃ r : List ByteArray, Ev (fun k => spec_NameParts.f k s) r ∧
    r.length ≤ 41 ∧ ((nameOk (bytesOf s) = true ∧ r.map bytesOf = cutL 46 (bytesOf s) ∧ r ≠ []) ∨ (nameOk (bytesOf s) = false ∧ r = [])) := by
  by_cases h : nameOk (bytesOf s) = true
  · have hs := nameOk_size h
    obtain ⟨q, e2, m2⟩ := ev_Cut s (by omega) 46
    have hl := cutL_length 46 (bytesOf s)
    have hc : (bytesOf s).count 46 ≤ s.size := by
      rw [← bl_length]
      exact List.count_le_length
    have hlen : q.length = (cutL 46 (bytesOf s)).length := by rw [← m2, List.length_map]
    refine ⟨q, ?_, by omega, .inl ⟨h, m2, fun e => ?_⟩⟩
    · unfold spec_NameParts.f
      exact Ev.bnd (ev_spec_NameOk s) (Ev.pos h (Ev.bnd e2 (Ev.val rfl)))
    · rw [e] at hlen
      simp at hlen
      omega
  · refine ⟨[], ?_, by simp, .inr ⟨Bool.eq_false_iff.2 h, rfl⟩⟩
    unfold spec_NameParts.f
    exact Ev.bnd (ev_spec_NameOk s) (Ev.neg h (Ev.val rfl))
theorem spec_under_l0 (xs ys : List ByteArray) (hl : xs.length ≤ ys.length) (hy : xs.length ≤ 1048576) : ∀ (d i : Nat), i + d = xs.length → Ev (fun k => spec_Under.l0 k xs ys (i : Int)) (decide (xs.drop i <+: ys.drop i)) := by
  intro d
  induction d with
  | zero =>
    intro i h
    refine Ev.succ ?_
    simp only [spec_Under.l0]
    refine Ev.neg (by omega) (Ev.val ?_)
    rw [List.drop_eq_nil_iff.2 (show xs.length ≤ i by omega)]
    exact (decide_eq_true (List.nil_prefix)).symm
  | succ d ih =>
    intro i h
    have hi : i < xs.length := by omega
    have hj : i < ys.length := by omega
    refine Ev.succ ?_
    simp only [spec_Under.l0]
    refine Ev.pos (by omega) (Ev.pos (by omega) (Ev.pos (by omega) ?_))
    rw [rdOf_at _ _ _ hi, rdOf_at _ _ _ hj, wS i (by omega), List.drop_eq_getElem_cons hi, List.drop_eq_getElem_cons hj]
    refine Ev.ite (fun e => Ev.cast (ih (i + 1) (by omega)) ?_) (fun e => Ev.val ?_)
    · rw [decide_eq_decide, List.cons_prefix_cons]
      exact ⟨fun h => ⟨toList_inj.1 e, h⟩, fun h => h.2⟩
    · symm
      apply decide_eq_false
      rw [List.cons_prefix_cons]
      exact fun h => e (by rw [h.1])
/-- Is the second name under the first? -/
def nmUnder (a b : ByteArray) : Bool := nameOk (bytesOf a) && (nameOk (bytesOf b) && decide (cutL 46 (bytesOf a) <+: cutL 46 (bytesOf b)))
theorem map_prefix {xs ys : List ByteArray} : xs.map bytesOf <+: ys.map bytesOf ↔ xs <+: ys := by
  constructor
  · intro h
    rw [List.prefix_iff_eq_take, List.length_map, ← List.map_take] at h
    rw [List.prefix_iff_eq_take]
    exact map_bl_inj h
  · rintro ⟨t, rfl⟩
    exact ⟨t.map bytesOf, by rw [List.map_append]⟩
theorem ev_spec_Under (a b : ByteArray) : Ev (fun k => spec_Under.f k a b) (nmUnder a b) := by
  obtain ⟨r, e1, l1, c1⟩ := ev_spec_parts a
  obtain ⟨q, e2, l2, c2⟩ := ev_spec_parts b
  unfold spec_Under.f
  refine Ev.bnd e1 (Ev.bnd e2 ?_)
  have no : Ev (fun k => spec_Under.j0 k r q true) false := by
    refine Ev.succ ?_
    simp only [spec_Under.j0]
    exact Ev.pos trivial (Ev.val rfl)
  unfold nmUnder
  rcases c1 with ⟨o1, m1, n1⟩ | ⟨o1, rfl⟩
  · have hr : 0 < r.length := List.length_pos_iff.2 n1
    rw [o1, Bool.true_and]
    refine Ev.neg (by omega) ?_
    rcases c2 with ⟨o2, m2, n2⟩ | ⟨o2, rfl⟩
    · rw [o2, Bool.true_and, ← m1, ← m2]
      by_cases hlt : r.length > q.length
      · rw [decide_eq_true (show (r.length : Int) > (q.length : Int) by omega), decide_eq_false (fun h => by have := h.length_le; rw [List.length_map, List.length_map] at this; omega)]
        exact no
      · rw [decide_eq_false (show ¬ (r.length : Int) > (q.length : Int) by omega)]
        refine Ev.succ ?_
        simp only [spec_Under.j0]
        refine Ev.neg (by simp) (Ev.cast (spec_under_l0 r q (by omega) (by omega) r.length 0 (by omega)) ?_)
        rw [List.drop_zero, List.drop_zero, decide_eq_decide]
        exact map_prefix.symm
    · rw [o2, Bool.false_and, decide_eq_true (by rw [List.length_nil]; omega)]
      exact no
  · rw [o1, Bool.false_and]
    exact Ev.pos rfl no
theorem hasPrefix_eq (s p : ByteArray) : strings_HasPrefix.f s p = some (decide (bytesOf p <+: bytesOf s)) := by
  unfold strings_HasPrefix.f stringslite_HasPrefix.f
  by_cases h : (s.size : Int) ≥ (p.size : Int)
  · rw [if_pos h, if_pos (by omega), if_pos (by omega)]
    show some _ = _
    congr 1
    rw [Bool.eq_iff_iff, beq_iff_eq, decide_eq_true_iff, toList_inj, List.prefix_iff_eq_take, bl_length]
    constructor
    · intro e
      have e2 := congrArg bytesOf e
      rw [bl_extract, Int.toNat_natCast, List.drop_zero, Nat.sub_zero] at e2
      exact e2.symm
    · intro e
      apply bl_inj
      rw [bl_extract, Int.toNat_natCast, e]
      simp
  · rw [if_neg h]
    show some _ = _
    congr 1
    symm
    apply decide_eq_false
    intro e
    have := e.length_le
    rw [bl_length, bl_length] at this
    omega
theorem ev_Under (a b : ByteArray) (ha : a.size ≤ 140737488351232) : Ev (fun k => impl_Under.f k a b) (nmUnder a b) := by
  unfold impl_Under.f nmUnder
  refine Ev.bnd (ev_NameOk a) ?_
  by_cases h1 : nameOk (bytesOf a) = true
  · rw [h1, Bool.true_and]
    refine Ev.pos rfl (Ev.bnd (ev_NameOk b) ?_)
    by_cases h2 : nameOk (bytesOf b) = true
    · rw [h2, Bool.true_and]
      refine Ev.pos rfl ?_
      have hc := cut_prefix 46 (bytesOf a) (bytesOf b)
      by_cases h3 : a.toList = b.toList
      · refine Ev.pos h3 (Ev.val ?_)
        rw [toList_inj] at h3
        symm
        apply decide_eq_true
        rw [h3]
        exact List.prefix_refl _
      · refine Ev.neg h3 (Ev.pos (by omega) ?_)
        rw [hasPrefix_eq]
        refine Ev.some_bind (Ev.val ?_)
        rw [decide_eq_decide, hc, bl_append]
        constructor
        · exact .inr
        · rintro (e | e)
          · exact absurd (by rw [bl_inj e]) h3
          · exact e
    · rw [Bool.eq_false_iff.2 h2, Bool.false_and]
      exact Ev.neg (by simp) (Ev.val rfl)
  · rw [Bool.eq_false_iff.2 h1, Bool.false_and]
    exact Ev.neg (by simp) (Ev.val rfl)
end Go.Proofs.YtckdocofmffheaaDoor.Pv
/- The words of the kinds of labels, of the program and of the reference; a kind is told by its word. No condition. -/
namespace Go.Proofs.YtckdocofmffheaaDoor.Pv
set_option linter.unusedSimpArgs false
set_option linter.unusedVariables false
open Go.RowKit Go.Proofs.YtckdocofmffheaaDoor.Q Go.Proofs.YtckdocofmffheaaDoorW.PrintWords Go.Proofs.YtckdocofmffheaaDoorW.PrintLast Go.Proofs.YtckdocofmffheaaDoorW.PrintMore
/-- The word of a kind. -/
def lbWord (n : Int) : ByteArray := if n = 1 then ⟨#[97, 120, 105, 111, 109]⟩ else if n = 2 then ⟨#[111, 112, 97, 113, 117, 101]⟩ else if n = 3 then ⟨#[117, 110, 115, 97, 102, 101]⟩ else if n = 4 then ⟨#[110, 111, 117, 110, 105, 118]⟩ else ⟨#[110, 111, 112, 111, 115]⟩
theorem lbWord_size (n : Int) : (lbWord n).size ≤ 6 := by
  unfold lbWord
  repeat (first | split | decide)
theorem lbWord_inj {i j : Int} (hi : 1 ≤ i ∧ i ≤ 5) (hj : 1 ≤ j ∧ j ≤ 5) (h : lbWord i = lbWord j) : i = j := by
  have hi' : i = 1 ∨ i = 2 ∨ i = 3 ∨ i = 4 ∨ i = 5 := by omega
  have hj' : j = 1 ∨ j = 2 ∨ j = 3 ∨ j = 4 ∨ j = 5 := by omega
  rcases hi' with rfl | rfl | rfl | rfl | rfl <;> rcases hj' with rfl | rfl | rfl | rfl | rfl <;> first | rfl | (exfalso; revert h; decide)
end Go.Proofs.YtckdocofmffheaaDoor.Pv
/- A kind is told by its word. No condition. -/
namespace Go.Proofs.YtckdocofmffheaaDoor.Pv
set_option linter.unusedSimpArgs false
set_option linter.unusedVariables false
open Go.RowKit Go.Proofs.YtckdocofmffheaaDoor.Q Go.Proofs.YtckdocofmffheaaDoorW.PrintWords Go.Proofs.YtckdocofmffheaaDoorW.PrintLast Go.Proofs.YtckdocofmffheaaDoorW.PrintMore
end Go.Proofs.YtckdocofmffheaaDoor.Pv
/- What RuleOk, RuleLine and ReadRule come to, of the program and of the reference. No condition beyond the sizes. -/
namespace Go.Proofs.YtckdocofmffheaaDoor.Pv
set_option linter.unusedSimpArgs false
set_option linter.unusedVariables false
open Go.RowKit Go.Proofs.YtckdocofmffheaaDoor.Q Go.Proofs.YtckdocofmffheaaDoorW.PrintWords Go.Proofs.YtckdocofmffheaaDoorW.PrintLast Go.Proofs.YtckdocofmffheaaDoorW.PrintMore
def rlOk (p : ByteArray) (n : Int) (a : ByteArray) : Bool := nameOk (bytesOf p) && (decide (1 ≤ n ∧ n ≤ 5) && (decide (a.toList = []) || nameOk (bytesOf a)))
theorem ev_RuleOk (p : ByteArray) (n : Int) (a : ByteArray) : Ev (fun k => impl_RuleOk.f k p n a) (rlOk p n a) := by
  unfold impl_RuleOk.f rlOk
  refine Ev.bnd (ev_NameOk p) ?_
  cases h1 : nameOk (bytesOf p)
  · exact Ev.neg (by simp) (Ev.val rfl)
  refine Ev.pos rfl ?_
  rw [isKind_eq, Bool.true_and]
  refine Ev.some_bind ?_
  by_cases h2 : 1 ≤ n ∧ n ≤ 5
  · rw [decide_eq_true h2, Bool.true_and]
    refine Ev.pos rfl (Ev.ite (fun h3 => Ev.val ?_) (fun h3 => Ev.bnd (ev_NameOk a) (Ev.val ?_)))
    · rw [decide_eq_true h3, Bool.true_or]
    · rw [decide_eq_false h3, Bool.false_or]
  · rw [decide_eq_false h2, Bool.false_and]
    exact Ev.neg (by simp) (Ev.val rfl)
theorem ev_spec_RuleOk (p : ByteArray) (n : Int) (a : ByteArray) : Ev (fun k => spec_RuleOk.f k p n a) (rlOk p n a) := by
  unfold spec_RuleOk.f rlOk
  refine Ev.bnd (ev_spec_NameOk p) ?_
  cases h1 : nameOk (bytesOf p)
  · exact Ev.neg (by simp) (Ev.val rfl)
  refine Ev.pos rfl ?_
  rw [l01In15, Bool.true_and]
  refine Ev.some_bind ?_
  by_cases h2 : 1 ≤ n ∧ n ≤ 5
  · rw [decide_eq_true h2, Bool.true_and]
    refine Ev.pos rfl (Ev.ite (fun h3 => Ev.val ?_) (fun h3 => Ev.bnd (ev_spec_NameOk a) (Ev.val ?_)))
    · rw [decide_eq_true h3, Bool.true_or]
    · rw [decide_eq_false h3, Bool.false_or]
  · rw [decide_eq_false h2, Bool.false_and]
    exact Ev.neg (by simp) (Ev.val rfl)
theorem rlOk_of {p : ByteArray} {n : Int} {a : ByteArray} (h : rlOk p n a = true) : p.size ≤ 40 ∧ (1 ≤ n ∧ n ≤ 5) ∧ a.size ≤ 40 := by
  unfold rlOk at h
  simp only [Bool.and_eq_true, Bool.or_eq_true, decide_eq_true_iff] at h
  refine ⟨nameOk_size h.1, h.2.1, ?_⟩
  rcases h.2.2 with e | e
  · have := (toList_nil a).1 e
    rw [← bl_length, this]
    decide
  · exact nameOk_size e
def rlHead (p : ByteArray) (n : Int) : ByteArray := ((((⟨#[102, 111, 114, 98, 105, 100, 32]⟩ : ByteArray) ++ p) ++ (⟨#[32]⟩ : ByteArray)) ++ lbWord n) ++ (⟨#[32]⟩ : ByteArray)
def rlTail (a : ByteArray) : ByteArray := if a.toList = [] then ⟨#[42]⟩ else a
def rlLine (p : ByteArray) (n : Int) (a : ByteArray) : ByteArray × Bool := if rlOk p n a = true then (rlHead p n ++ rlTail a, true) else (⟨#[]⟩, false)
theorem lit7 : (⟨#[102, 111, 114, 98, 105, 100, 32]⟩ : ByteArray).size = 7 := rfl
theorem lit1 : (⟨#[32]⟩ : ByteArray).size = 1 := rfl
end Go.Proofs.YtckdocofmffheaaDoor.Pv
/- What Forbids comes to, of the program and of the reference. No condition beyond the sizes. -/
namespace Go.Proofs.YtckdocofmffheaaDoor.Pv
set_option linter.unusedSimpArgs false
set_option linter.unusedVariables false
open Go.RowKit Go.Proofs.YtckdocofmffheaaDoor.Q Go.Proofs.YtckdocofmffheaaDoorW.PrintWords Go.Proofs.YtckdocofmffheaaDoorW.PrintLast Go.Proofs.YtckdocofmffheaaDoorW.PrintMore
/-- Does the rule (p, n, a) forbid the label (m, t) to the name s? -/
def rlForbids (p : ByteArray) (n : Int) (a s : ByteArray) (m : Int) (t : ByteArray) : Bool := rlOk p n a && (nmUnder p s && (decide (n = m) && (decide (a.toList = []) || (a.toList == t.toList))))
theorem ev_Forbids (p : ByteArray) (n : Int) (a s : ByteArray) (m : Int) (t : ByteArray) : Ev (fun k => impl_Forbids.f k p n a s m t) (rlForbids p n a s m t) := by
  unfold impl_Forbids.f rlForbids
  refine Ev.bnd (ev_RuleOk p n a) ?_
  by_cases h : rlOk p n a = true
  · have hp := (rlOk_of h).1
    rw [h, Bool.true_and]
    refine Ev.pos rfl (Ev.bnd (ev_Under p s (by omega)) ?_)
    cases h2 : nmUnder p s
    · exact Ev.neg (by simp) (Ev.val rfl)
    · rw [Bool.true_and]
      refine Ev.pos rfl (Ev.ite (fun e => ?_) (fun e => Ev.val ?_))
      · rw [decide_eq_true e.symm, Bool.true_and]
        refine Ev.ite (fun e2 => Ev.val ?_) (fun e2 => Ev.val ?_)
        · rw [decide_eq_true e2, Bool.true_or]
        · rw [decide_eq_false e2, Bool.false_or]
      · rw [decide_eq_false (fun z => e z.symm), Bool.false_and]
  · rw [Bool.eq_false_iff.2 h, Bool.false_and]
    exact Ev.neg (by simp) (Ev.val rfl)
theorem ev_spec_Forbids (p : ByteArray) (n : Int) (a s : ByteArray) (m : Int) (t : ByteArray) : Ev (fun k => spec_Forbids.f k p n a s m t) (rlForbids p n a s m t) := by
  unfold spec_Forbids.f rlForbids
  refine Ev.bnd (ev_spec_RuleOk p n a) ?_
  by_cases h : rlOk p n a = true
  · rw [h, Bool.true_and]
    refine Ev.pos rfl (Ev.bnd (ev_spec_Under p s) ?_)
    cases h2 : nmUnder p s
    · exact Ev.neg (by simp) (Ev.val rfl)
    · rw [Bool.true_and]
      refine Ev.pos rfl (Ev.ite (fun e => ?_) (fun e => Ev.val ?_))
      · rw [decide_eq_true e, Bool.true_and]
        refine Ev.ite (fun e2 => Ev.val ?_) (fun e2 => Ev.val ?_)
        · rw [decide_eq_true e2, Bool.true_or]
        · rw [decide_eq_false e2, Bool.false_or]
      · rw [decide_eq_false e, Bool.false_and]
  · rw [Bool.eq_false_iff.2 h, Bool.false_and]
    exact Ev.neg (by simp) (Ev.val rfl)
end Go.Proofs.YtckdocofmffheaaDoor.Pv
/- The violated labels: what the program and the reference come to. No condition beyond the sizes. -/
namespace Go.Proofs.YtckdocofmffheaaDoor.Pv
set_option linter.unusedSimpArgs false
set_option linter.unusedVariables false
open Go.RowKit Go.Proofs.YtckdocofmffheaaDoor.Q Go.Proofs.YtckdocofmffheaaDoorW.PrintWords Go.Proofs.YtckdocofmffheaaDoorW.PrintLast Go.Proofs.YtckdocofmffheaaDoorW.PrintMore
def brOne (nm : ByteArray) (l : S30) (r : S41) : Bool := rlForbids r.f0 r.f1 r.f2 nm l.f0 l.f1
def brAll (rules : List S41) (nm : ByteArray) (labels : List S30) : List S30 := labels.filter fun l => rules.any (brOne nm l)
/-- From some number of rounds on, for all members at once. -/
theorem ev_members {α β : Type} (g : α → Nat → Option β) (v : α → β) : ∀ xs : List α, (∀ x ∈ xs, Ev (g x) (v x)) → ∃ K, ∀ k, K ≤ k → ∀ x ∈ xs, g x k = some (v x) := by
  intro xs
  induction xs with
  | nil => intro _; exact ⟨0, fun k _ x hx => by cases hx⟩
  | cons x xs ih =>
    intro h
    obtain ⟨K1, h1⟩ := ih fun y hy => h y (List.mem_cons_of_mem _ hy)
    obtain ⟨K2, h2⟩ := h x (List.mem_cons_self ..)
    refine ⟨max K1 K2, fun k hk y hy => ?_⟩
    rcases List.mem_cons.1 hy with rfl | hy
    · exact h2 k (by omega)
    · exact h1 k (by omega) y hy
theorem ev_Broken (rules : List S41) (nm : ByteArray) (labels : List S30) (hl : labels.length ≤ 1048576) : Ev (fun k => impl_Broken.f k rules nm labels) (brAll rules nm labels) := by
  have h1 : ∀ l : S30, ∃ K, ∀ k, K ≤ k → ∀ r ∈ rules, impl_Broken.one k nm l r = some (brOne nm l r) := fun l => ev_members (fun r k => impl_Broken.one k nm l r) (brOne nm l) rules fun r _ => ev_Forbids _ _ _ _ _ _
  have h2 : ∃ K, ∀ k, K ≤ k → ∀ l ∈ labels, ∀ r ∈ rules, impl_Broken.one k nm l r = some (brOne nm l r) := by
    clear hl
    induction labels with
    | nil => exact ⟨0, fun k _ x hx => by cases hx⟩
    | cons x xs ih =>
      obtain ⟨K1, a⟩ := ih
      obtain ⟨K2, b⟩ := h1 x
      refine ⟨max K1 K2, fun k hk y hy => ?_⟩
      rcases List.mem_cons.1 hy with rfl | hy
      · exact b k (by omega)
      · exact a k (by omega) y hy
  obtain ⟨K, hK⟩ := h2
  refine ⟨K, fun k hk => ?_⟩
  have ha := hK k hk
  show impl_Broken.f k rules nm labels = some (brAll rules nm labels)
  unfold impl_Broken.f brAll
  rw [if_pos ⟨by omega, List.all_eq_true.2 fun l hl => List.all_eq_true.2 fun r hr => by rw [ha l hl r hr]; rfl⟩]
  congr 1
  refine List.filter_congr fun l hl => ?_
  rw [Bool.eq_iff_iff, List.any_eq_true, List.any_eq_true]
  constructor
  · rintro ⟨r, hr, e⟩
    refine ⟨r, hr, ?_⟩
    unfold impl_Broken.fb at e
    rw [ha l hl r hr] at e
    simpa using e
  · rintro ⟨r, hr, e⟩
    refine ⟨r, hr, ?_⟩
    unfold impl_Broken.fb
    rw [ha l hl r hr, e]
    rfl
theorem rdR_at (xs : List S41) (i : Nat) (h : i < xs.length) : rd_T41 xs (i : Int) = xs[i] := getD_at _ _ _ h
theorem rdB_at (xs : List S30) (i : Nat) (h : i < xs.length) : rd_T30 xs (i : Int) = xs[i] := getD_at _ _ _ h
theorem broken_inner (rules : List S41) (nm : ByteArray) (labels acc : List S30) (hr : rules.length ≤ 1048576) (hl : labels.length ≤ 1048576) (i : Nat) (hi : i < labels.length) (ha : acc.length ≤ i) (R : List S30)
    (hy : rules.any (brOne nm labels[i]) = true → Ev (fun k => spec_Broken.l0 k rules nm labels (acc ++ [labels[i]]) ((i + 1 : Nat) : Int)) R)
    (hn : rules.any (brOne nm labels[i]) = false → Ev (fun k => spec_Broken.l0 k rules nm labels acc ((i + 1 : Nat) : Int)) R) :
    ∀ (d j : Nat), j + d = rules.length → ((rules.take j).any (brOne nm labels[i]) = false) → Ev (fun k => spec_Broken.l1 k rules nm labels acc (i : Int) (j : Int)) R := by
  intro d
  induction d with
  | zero =>
    intro j h hno
    refine Ev.succ ?_
    simp only [spec_Broken.l1]
    rw [wS i (by omega)]
    refine Ev.neg (by omega) (hn ?_)
    rwa [List.take_of_length_le (by omega)] at hno
  | succ d ih =>
    intro j h hno
    have hj : j < rules.length := by omega
    refine Ev.succ ?_
    simp only [spec_Broken.l1]
    rw [rdR_at _ _ hj, rdB_at _ _ hi, wS i (by omega), wS j (by omega)]
    refine Ev.pos (by omega) (Ev.pos (by omega) (Ev.pos (by omega) (Ev.pos (by omega) (Ev.bnd (ev_spec_Forbids _ _ _ _ _ _) (Ev.ite (fun hf => Ev.pos (by omega) (hy ?_)) (fun hf => ih (j + 1) (by omega) ?_))))))
    · rw [List.any_eq_true]
      exact ⟨rules[j], List.getElem_mem hj, hf⟩
    · rw [List.take_succ_eq_append_getElem hj, List.any_append, hno, Bool.false_or]
      simp only [List.any_cons, List.any_nil, Bool.or_false]
      exact Bool.eq_false_iff.2 hf
theorem ev_spec_Broken (rules : List S41) (nm : ByteArray) (labels : List S30) (hr : rules.length ≤ 1048576) (hl : labels.length ≤ 1048576) : Ev (fun k => spec_Broken.f k rules nm labels) (brAll rules nm labels) := by
  unfold spec_Broken.f
  have key : ∀ (d i : Nat) (acc : List S30), i + d = labels.length → acc.length ≤ i → Ev (fun k => spec_Broken.l0 k rules nm labels acc (i : Int)) (acc ++ brAll rules nm (labels.drop i)) := by
    intro d
    induction d with
    | zero =>
      intro i acc h _
      refine Ev.succ ?_
      simp only [spec_Broken.l0]
      refine Ev.neg (by omega) (Ev.val ?_)
      rw [List.drop_eq_nil_iff.2 (by omega)]
      simp [brAll]
    | succ d ih =>
      intro i acc h ha
      have hi : i < labels.length := by omega
      refine Ev.succ ?_
      simp only [spec_Broken.l0]
      refine Ev.pos (by omega) ?_
      have hd : labels.drop i = labels[i] :: labels.drop (i + 1) := List.drop_eq_getElem_cons hi
      refine broken_inner rules nm labels acc hr hl i hi ha _ (fun hf => ?_) (fun hf => ?_) rules.length 0 (by omega) (by simp)
      · refine Ev.cast (ih (i + 1) _ (by omega) (by simp; omega)) ?_
        rw [hd]
        unfold brAll
        rw [List.filter_cons_of_pos (p := fun l => rules.any (brOne nm l)) hf, List.append_assoc]
        rfl
      · refine Ev.cast (ih (i + 1) _ (by omega) (by omega)) ?_
        rw [hd]
        unfold brAll
        rw [List.filter_cons_of_neg (p := fun l => rules.any (brOne nm l)) (by rw [hf]; simp)]
  have := key labels.length 0 [] (by omega) (by simp)
  simpa using this
theorem brAll_len (rules : List S41) (nm : ByteArray) (labels : List S30) : (brAll rules nm labels).length ≤ labels.length := List.length_filter_le _ _
theorem ev_Allowed (rules : List S41) (nm : ByteArray) (labels : List S30) (hl : labels.length ≤ 1048576) : Ev (fun k => impl_Allowed.f k rules nm labels) ((((brAll rules nm labels).length : Int)) == 0) := by
  unfold impl_Allowed.f
  exact Ev.bnd (ev_Broken rules nm labels hl) (Ev.val rfl)
theorem ev_spec_Allowed (rules : List S41) (nm : ByteArray) (labels : List S30) (hr : rules.length ≤ 1048576) (hl : labels.length ≤ 1048576) : Ev (fun k => spec_Allowed.f k rules nm labels) ((((brAll rules nm labels).length : Int)) == 0) := by
  unfold spec_Allowed.f
  exact Ev.bnd (ev_spec_Broken rules nm labels hr hl) (Ev.val rfl)
end Go.Proofs.YtckdocofmffheaaDoor.Pv
/- A label's size in the laws. No condition but a sound length. -/
namespace Go.Proofs.YtckdocofmffheaaDoor.Pv
set_option linter.unusedSimpArgs false
set_option linter.unusedVariables false
open Go.RowKit Go.Proofs.YtckdocofmffheaaDoor.Q Go.Proofs.YtckdocofmffheaaDoorW.PrintWords Go.Proofs.YtckdocofmffheaaDoorW.PrintLast Go.Proofs.YtckdocofmffheaaDoorW.PrintMore
theorem szLabel_eq (n : Int) (s : ByteArray) (gs : s.size ≤ 9223372036854775807) (a : Int) (ha : 0 ≤ a) (hb : a ≤ 1048576) : laws_szLabel.f n s a = some (spend a s.size) := by
  unfold laws_szLabel.f
  rw [w_id (by omega) (by omega)]
  by_cases h : a - (s.size : Int) < 0
  · rw [if_pos h, spend_no (by omega)]
  · rw [if_neg h, spend_yes (by omega)]
end Go.Proofs.YtckdocofmffheaaDoor.Pv
/- Readings of arguments: whatever can be read as data of a type is, cell by cell, of the kind by which the printed walks read it; the numbers in it are whole numbers of their kinds. No condition. -/
namespace Go.Proofs.YtckdocofmffheaaDoor.Pv
set_option linter.unusedSimpArgs false
set_option linter.unusedVariables false
open Go.RowKit Go.Proofs.YtckdocofmffheaaDoorW.PrintWords
/-- What is read at type t is of kind d, and good. -/
structure Opens (P : Program) (t : TypeId) {α : Type} (d : Kd α) (G : α → Prop) : Prop where
  rd : ∀ {H : Type} {enc : TypeId × Value → H} {w : World} {n : Nat} {cs : List Value} {x : DataW H × List MemPlace}, DataW.trod enc P w 0 (fun _ => true) true n t cs = some x → ∃ v, d.K w v cs ∧ G v
variable {P : Program} {t e : TypeId} {α β : Type} {d : Kd α} {d' : Kd β} {G : α → Prop} {G' : β → Prop}
def gI (k : IntKind) (n : Int) : Prop := (Lit.int k n).wf = true
def gS (s : ByteArray) : Prop := s.size ≤ maxLen
def gB (_ : Bool) : Prop := True
def gL (G : α → Prop) (xs : List α) : Prop := (∀ x ∈ xs, G x) ∧ xs.length ≤ maxLen
theorem opens_int {k : IntKind} (ht : P.underlying t = some (.int k)) : Opens P t (Kd.int k) (gI k) := by
  refine ⟨?_⟩
  intro H enc w n cs x h
  obtain ⟨m, rfl, rfl, hm⟩ := DataW.trod_int ht h
  exact ⟨m, rfl, hm⟩
theorem opens_bool (ht : P.underlying t = some .bool) : Opens P t Kd.bool gB := by
  refine ⟨?_⟩
  intro H enc w n cs x h
  obtain ⟨m, rfl, rfl⟩ := DataW.trod_bool ht h
  exact ⟨m, rfl, trivial⟩
theorem opens_string (ht : P.underlying t = some .string) : Opens P t Kd.string gS := by
  refine ⟨?_⟩
  intro H enc w n cs x h
  obtain ⟨s, rfl, rfl, hs⟩ := DataW.trod_string ht h
  exact ⟨s, rfl, hs⟩
theorem add_add (a : Addr) (m n : Nat) : (a.add m).add n = a.add (m + n) := by
  unfold Addr.add
  rcases Nat.eq_zero_or_pos m with rfl | hm
  · simp
  · rcases Nat.eq_zero_or_pos n with rfl | hn
    · simp
    · rw [if_neg (by omega), if_neg (by omega), if_neg (by omega)]
      simp [Nat.add_assoc]
theorem opens_slice (ht : P.underlying t = some (.slice e)) (hc : P.cellsOf e = d.sz) (hd : Opens P e d G) : Opens P t (Kd.slice e d) (gL G) := by
  refine ⟨?_⟩
  intro H enc w n cs x h
  rcases DataW.trod_slice ht h with ⟨rfl, rfl⟩ | ⟨a, len, cap, elems, rest, m, _, rfl, rfl, hb, hl, hm, hlen, hel, hsp, hns⟩
  · refine ⟨[], ⟨none, 0, rfl, Nat.le_refl _, rfl, Nat.zero_le _, fun h0 => absurd h0 (Nat.lt_irrefl _)⟩, ?_, Nat.zero_le _⟩
    intro x hx
    cases hx
  · have each : ∀ i, i < len → ∃ v c, w.cells? 0 (a.add (i * P.cellsOf e)) (P.cellsOf e) = some c ∧ d.K w v c ∧ G v := by
      intro i hi
      have h1 := hel i hi
      rw [List.getElem?_eq_getElem (by omega)] at h1
      obtain ⟨c, hc1, hc2⟩ := Option.bind_eq_some_iff.1 h1
      obtain ⟨v, hv, hg⟩ := hd.rd hc2
      exact ⟨v, c, hc1, hv, hg⟩
    have all : ∀ k, k ≤ len → ∃ xs : List α, xs.length = k ∧ (∀ y ∈ xs, G y) ∧ ∀ j p, xs[j]? = some p → ∃ c, w.cells? 0 (a.add (j * P.cellsOf e)) (P.cellsOf e) = some c ∧ d.K w p c := by
      intro k
      induction k with
      | zero => exact fun _ => ⟨[], rfl, (fun y hy => by cases hy), (fun j p hp => by simp at hp)⟩
      | succ k ih =>
        intro hk
        obtain ⟨xs, hxl, hxg, hxc⟩ := ih (by omega)
        obtain ⟨v, c, h1, h2, h3⟩ := each k (by omega)
        refine ⟨xs ++ [v], by simp [hxl], ?_, ?_⟩
        · intro y hy
          rcases List.mem_append.1 hy with hy | hy
          · exact hxg y hy
          · rw [List.mem_singleton.1 hy]
            exact h3
        · intro j p hp
          rcases Nat.lt_or_ge j xs.length with hj | hj
          · rw [List.getElem?_append_left hj] at hp
            exact hxc j p hp
          · have : j < (xs ++ [v]).length := (List.getElem?_eq_some_iff.1 hp).1
            have hj' : j = xs.length := by simp at this; omega
            subst hj'
            have : p = v := by simpa using hp.symm
            subst this
            rw [hxl]
            exact ⟨c, h1, h2⟩
    obtain ⟨xs, hxl, hxg, hxc⟩ := all len (Nat.le_refl _)
    subst hxl
    refine ⟨xs, ⟨some a, cap, rfl, hl, rfl, by unfold maxLen at hm; omega, fun _ => ⟨a, rfl, fun j p hp => ?_⟩⟩, hxg, by omega⟩
    obtain ⟨c, h1, h2⟩ := hxc j p hp
    obtain ⟨_, hcl, hcc⟩ := World.cells?_some h1
    have hcs : c.length = d.sz := d.K_len h2
    refine ⟨c, hcs, h2, fun i u hu => ?_⟩
    have hi : i < P.cellsOf e := by
      have := (List.getElem?_eq_some_iff.1 hu).1
      omega
    have h3 := hcc i hi
    rw [hu] at h3
    have ha : (a.add (j * P.cellsOf e)).add i = a.add (j * d.sz + i) := by
      rw [hc, add_add]
    rw [← ha]
    exact h3
/-- The fields from the place o on, one after the other. -/
structure OpensF (P : Program) (fs : List Field) (o : Nat) {α : Type} (d : Kd α) (G : α → Prop) : Prop where
  rd : ∀ {H : Type} {enc : TypeId × Value → H} {w : World} {n : Nat} {cs : List Value} {xs : List (DataW H × List MemPlace)}, cs.length = o + d.sz → xs.length = fs.length →
    (∀ (i : Nat) (f : Field), fs[i]? = some f → DataW.trod enc P w 0 (fun _ => true) true n f.type ((cs.drop f.offset).take (P.cellsOf f.type)) = xs[i]?) → ∃ v, d.K w v (cs.drop o) ∧ G v
theorem opensF_one {f : Field} {o : Nat} (ho : f.offset = o) (hc : P.cellsOf f.type = d.sz) (hd : Opens P f.type d G) : OpensF P [f] o d G := by
  refine ⟨?_⟩
  intro H enc w n cs xs hcs hxs h
  have h0 := h 0 f rfl
  have hx : 0 < xs.length := by rw [hxs]; exact Nat.zero_lt_one
  rw [List.getElem?_eq_getElem hx, ho] at h0
  obtain ⟨v, hv, hg⟩ := hd.rd h0
  refine ⟨v, ?_, hg⟩
  rw [hc, List.take_of_length_le (by rw [List.length_drop]; omega)] at hv
  exact hv
theorem opensF_cons {f : Field} {fs : List Field} {o : Nat} (ho : f.offset = o) (hc : P.cellsOf f.type = d.sz) (hd : Opens P f.type d G) (hs : OpensF P fs (o + d.sz) d' G') :
    OpensF P (f :: fs) o (Kd.pair d d') (fun x => G x.1 ∧ G' x.2) := by
  refine ⟨?_⟩
  intro H enc w n cs xs hcs hxs h
  have hcs : cs.length = o + (d.sz + d'.sz) := hcs
  cases xs with
  | nil => simp at hxs
  | cons x xs =>
    have h0 := h 0 f rfl
    rw [List.getElem?_cons_zero, ho, hc] at h0
    obtain ⟨v, hv, hg⟩ := hd.rd h0
    obtain ⟨v', hv', hg'⟩ := hs.rd (cs := cs) (xs := xs) (by omega) (by simpa using hxs) (fun i g hi => by
      have := h (i + 1) g (by simpa using hi)
      rw [List.getElem?_cons_succ] at this
      exact this)
    refine ⟨(v, v'), ⟨_, _, ?_, hv, hv'⟩, hg, hg'⟩
    have : (cs.drop o).take d.sz ++ (cs.drop o).drop d.sz = cs.drop o := List.take_append_drop _ _
    rw [List.drop_drop] at this
    exact this.symm
theorem opens_struct {fs : Array Field} (ht : P.underlying t = some (.struct fs)) (hc : P.cellsOf t = d.sz) (hf : OpensF P fs.toList 0 d G) : Opens P t d G := by
  refine ⟨?_⟩
  intro H enc w n cs x h
  obtain ⟨xs, m, rfl, rfl, hl, hx, hr⟩ := DataW.trod_struct ht h
  obtain ⟨v, hv, hg⟩ := hf.rd (cs := cs) (xs := xs) (by omega) (by simpa using hx) (fun i f hi => hr i f (by simpa using hi))
  exact ⟨v, hv, hg⟩
theorem opens_iso {f : β → α} (g : α → β) (hfg : ∀ x, f (g x) = x) (h : Opens P t d G) : Opens P t (Kd.iso d f) (fun x => G (f x)) := by
  refine ⟨?_⟩
  intro H enc w n cs x hx
  obtain ⟨v, hv, hg⟩ := h.rd hx
  exact ⟨g v, by show d.K w (f (g v)) cs; rw [hfg]; exact hv, by show G (f (g v)); rw [hfg]; exact hg⟩
end Go.Proofs.YtckdocofmffheaaDoor.Pv
/- Readings of this program's own structs: what can be read as data of such a type is of the kind by which the printed walks read it. No condition. (Printed by wip/tools/rowx.py.) -/
namespace Go.Proofs.YtckdocofmffheaaDoor.Pv
open Go.RowKit Go.Proofs.YtckdocofmffheaaDoorW.PrintWords
def g38 (x : Q.S38) : Prop := gS x.f0 ∧ (gI .i64) x.f1 ∧ gS x.f2
theorem open38 : Opens Tryd.prog 38 Q.k38 g38 := by
  have h := opens_struct Tryd.underlying38 (by kernel_rfl) (opensF_cons rfl (by kernel_rfl) (opens_string Tryd.underlying9) (opensF_cons rfl (by kernel_rfl) (opens_int Tryd.underlying3) (opensF_one rfl (by kernel_rfl) (opens_string Tryd.underlying9))))
  exact opens_iso (f := fun x : Q.S38 => (x.f0, x.f1, x.f2)) (fun p => ⟨p.1, p.2.1, p.2.2⟩) (fun _ => rfl) h
def g49 (x : Q.S49) : Prop := (gI .i64) x.f0 ∧ gS x.f1
theorem open49 : Opens Tryd.prog 49 Q.k49 g49 := by
  have h := opens_struct Tryd.underlying49 (by kernel_rfl) (opensF_cons rfl (by kernel_rfl) (opens_int Tryd.underlying3) (opensF_one rfl (by kernel_rfl) (opens_string Tryd.underlying9)))
  exact opens_iso (f := fun x : Q.S49 => (x.f0, x.f1)) (fun p => ⟨p.1, p.2⟩) (fun _ => rfl) h
end Go.Proofs.YtckdocofmffheaaDoor.Pv
/- Labels and slices of labels in the laws: their sizes, their copies, their comparison. No condition but sound lengths. -/
namespace Go.Proofs.YtckdocofmffheaaDoor.Pv
set_option linter.unusedSimpArgs false
set_option linter.unusedVariables false
open Go.RowKit Go.Proofs.YtckdocofmffheaaDoor.Q Go.Proofs.YtckdocofmffheaaDoorW.PrintWords Go.Proofs.YtckdocofmffheaaDoorW.PrintLast Go.Proofs.YtckdocofmffheaaDoorW.PrintMore
/-- A label of the laws as one of the program's. -/
def lbTo (x : S49) : S30 := ⟨x.f0, x.f1⟩
theorem ev_szLabelS (xs : List S49) (g : gL g49 xs) (a : Int) (ha : 0 ≤ a) (hb : a ≤ 1048576) : Ev (fun k => laws_szLabelS.f k xs a) (spend a (xs.length + (xs.map fun x => x.f1.size).sum)) := by
  have hl : xs.length ≤ 9223372036854775807 := g.2
  refine ev_spendS xs (fun x => x.f1.size) (fun k a i => laws_szLabelS.l0 k xs a i) hl (fun a => ?_) (fun i hi a r hm ha hb hn hy => ?_) a ha hb
  · refine Ev.succ ?_
    simp only [laws_szLabelS.l0]
    exact Ev.neg (by omega) (Ev.val rfl)
  · have hs : xs[i].f1.size ≤ 9223372036854775807 := (g.1 _ (List.getElem_mem hi)).2
    refine Ev.succ ?_
    simp only [laws_szLabelS.l0]
    rw [show rd_T49 xs (i : Int) = xs[i] from getD_at _ _ _ hi, szLabel_eq _ _ hs a ha hb, wS i (by omega)]
    refine Ev.pos (by omega) (Ev.pos (by omega) (Ev.some_bind ?_))
    unfold spend
    by_cases h : (xs[i].f1.size : Int) ≤ a
    · rw [if_pos h]
      exact Ev.neg (by omega) (hy h)
    · rw [if_neg h]
      exact Ev.pos (by omega) (Ev.val (hn (by omega)).symm)
theorem ev_toLabelS (xs : List S49) (hl : xs.length ≤ 1048576) : Ev (fun k => laws_toLabelS.f k xs) (xs.map lbTo) := by
  unfold laws_toLabelS.f
  refine Ev.pos (by omega) (Ev.pos (by omega) ?_)
  rw [Int.toNat_natCast]
  refine ev_copyL xs lbTo _ (fun k ys i => laws_toLabelS.l0 k xs ys i) (fun ys => ?_) (fun i hi ys r hy h => ?_)
  · refine Ev.succ ?_
    simp only [laws_toLabelS.l0]
    exact Ev.neg (by omega) (Ev.val rfl)
  · refine Ev.succ ?_
    simp only [laws_toLabelS.l0, laws_toLabel.f, Option.bind_some]
    rw [show rd_T49 xs (i : Int) = xs[i] from getD_at _ _ _ hi, wS i (by omega), Int.toNat_natCast]
    exact Ev.pos (by omega) (Ev.pos (by omega) (Ev.pos (by omega) h))
theorem eqLabel_self (n : Int) (s : ByteArray) : laws_eqLabel.f n s n s = some true := by
  unfold laws_eqLabel.f
  rw [if_pos rfl, if_pos rfl]
theorem ev_eqLabelS (xs : List S30) (hl : xs.length ≤ 1048576) : Ev (fun k => laws_eqLabelS.f k xs xs) true := by
  unfold laws_eqLabelS.f
  refine Ev.pos rfl (ev_all xs.length true (fun k i => laws_eqLabelS.l0 k xs xs i) ?_ (fun i hi h => ?_))
  · refine Ev.succ ?_
    simp only [laws_eqLabelS.l0]
    exact Ev.neg (by omega) (Ev.val rfl)
  · refine Ev.succ ?_
    simp only [laws_eqLabelS.l0, eqLabel_self, Option.bind_some]
    rw [wS i (by omega)]
    exact Ev.pos (by omega) (Ev.pos (by omega) (Ev.pos (by omega) (Ev.pos trivial h)))
theorem labels_fit {a : Int} {xs : List S49} (hb : a ≤ 1048576) (h : ¬ spend a (xs.length + (xs.map fun x => x.f1.size).sum) < 0) : xs.length ≤ 1048576 ∧ ∀ x ∈ xs, x.f1.size ≤ 1048576 := by
  have h1 := (spend_ge h).1
  refine ⟨by omega, fun x hx => ?_⟩
  have := mem_sum (fun x : S49 => x.f1.size) xs x hx
  omega
end Go.Proofs.YtckdocofmffheaaDoor.Pv
/- The texts of the marks. No condition. -/
namespace Go.Proofs.YtckdocofmffheaaDoor.Pv
set_option linter.unusedSimpArgs false
set_option linter.unusedVariables false
open Go.RowKit Go.Proofs.YtckdocofmffheaaDoor.Q Go.Proofs.YtckdocofmffheaaDoorW.PrintWords Go.Proofs.YtckdocofmffheaaDoorW.PrintLast Go.Proofs.YtckdocofmffheaaDoorW.PrintMore
theorem mark_text_l0 : ∀ (d n : Nat) (x : ByteArray), n < 2 ^ d → d ≤ 62 → x.size + d ≤ 1000000 → ∃ t, Ev (fun k => laws_markText.l0 k (n : Int) x) t := by
  intro d
  induction d with
  | zero =>
    intro n x h _ hx
    obtain rfl : n = 0 := by simpa using h
    refine ⟨(⟨#[109]⟩ : ByteArray) ++ x, Ev.succ ?_⟩
    simp only [laws_markText.l0]
    exact Ev.neg (by omega) (Ev.pos (by omega) (Ev.val rfl))
  | succ d ih =>
    intro n x h hd hx
    by_cases h0 : 0 < n
    · have hn : n / 10 < 2 ^ d := by
        rw [Nat.pow_succ] at h
        omega
      have hp : 2 ^ (d + 1) ≤ 2 ^ 62 := Nat.pow_le_pow_right (by omega) hd
      have e1 : wrap64 (Int.tdiv (n : Int) 10) = ((n / 10 : Nat) : Int) := by
        rw [Int.tdiv_eq_ediv_of_nonneg (by omega)]
        exact w_id (by omega) (by omega)
      have hsz : ∀ y : Int, (strOfNums [y]).size = 1 := fun y => by
        rw [← bl_length]
        unfold bytesOf
        rw [strOfNums_data]
        rfl
      obtain ⟨t, ht⟩ := ih (n / 10) (strOfNums [(wrap64 (48 + (Int.tmod (n : Int) 10))) % 256] ++ x) hn (by omega) (by rw [size_append, hsz]; omega)
      refine ⟨t, Ev.succ ?_⟩
      simp only [laws_markText.l0]
      refine Ev.pos (by omega) (Ev.some_bind (Ev.pos (by rw [hsz]; omega) ?_))
      rw [e1]
      exact ht
    · obtain rfl : n = 0 := by omega
      refine ⟨(⟨#[109]⟩ : ByteArray) ++ x, Ev.succ ?_⟩
      simp only [laws_markText.l0]
      exact Ev.neg (by omega) (Ev.pos (by omega) (Ev.val rfl))
/-- The texts of the marks. -/
theorem mark_text : ∃ T : Nat → ByteArray, ∀ n : Nat, n < 4611686018427387904 → Ev (fun k => laws_markText.f k (n : Int)) (T n) := by
  have h : ∀ n : Nat, ∃ t : ByteArray, n < 4611686018427387904 → Ev (fun k => laws_markText.f k (n : Int)) t := by
    intro n
    by_cases hn : n < 4611686018427387904
    · unfold laws_markText.f
      by_cases h0 : (n : Int) ≤ 0
      · exact ⟨_, fun _ => Ev.pos h0 (Ev.val rfl)⟩
      · obtain ⟨t, ht⟩ := mark_text_l0 62 n ⟨#[]⟩ (by simpa using hn) (by omega) (by decide)
        exact ⟨t, fun _ => Ev.neg h0 ht⟩
    · exact ⟨⟨#[]⟩, fun h => absurd h hn⟩
  exact ⟨fun n => Classical.choose (h n), fun n => Classical.choose_spec (h n)⟩
end Go.Proofs.YtckdocofmffheaaDoor.Pv
/- Marks on labels: the laws write numbers and numbered texts into a result and look whether they stand there: they do. No condition but sound lengths. -/
namespace Go.Proofs.YtckdocofmffheaaDoor.Pv
set_option linter.unusedSimpArgs false
set_option linter.unusedVariables false
open Go.RowKit Go.Proofs.YtckdocofmffheaaDoor.Q Go.Proofs.YtckdocofmffheaaDoorW.PrintWords Go.Proofs.YtckdocofmffheaaDoorW.PrintLast Go.Proofs.YtckdocofmffheaaDoorW.PrintMore
theorem mark_heldL : ∃ T : Nat → S30, (∀ (xs : List S30) (m : Nat), m + 2 * xs.length ≤ 140737488351232 → Ev (fun k => laws_markLabelS.f k xs (m : Int)) (((m + 2 * xs.length : Nat) : Int), marks T m 2 xs.length)) ∧
    (∀ n m : Nat, m + 2 * n ≤ 140737488351232 → Ev (fun k => laws_heldLabelS.f k (marks T m 2 n) (m : Int)) ((m + 2 * n : Nat) : Int)) := by
  obtain ⟨T, hT⟩ := mark_text
  refine ⟨fun n => ⟨(n : Int), T (n + 1)⟩, fun xs m hm => ?_, fun n m hm => ?_⟩
  · refine ev_markL xs (fun n => (⟨(n : Int), T (n + 1)⟩ : S30)) m 2 (fun k ys m i => laws_markLabelS.l0 k ys m i) (fun ys q hy => by
      refine Ev.succ ?_
      simp only [laws_markLabelS.l0]
      exact Ev.neg (by omega) (Ev.val rfl)) (fun i ys r hi hy h => by
      refine Ev.succ ?_
      simp only [laws_markLabelS.l0]
      rw [wS (m + 2 * i) (by omega), wS (m + 2 * i + 1) (by omega), wS i (by omega), Int.toNat_natCast]
      refine Ev.pos (by omega) (Ev.pos (by omega) (Ev.some_bind (Ev.bnd (hT _ (by omega)) ?_)))
      have e : (rd_T30 (ys.set i (⟨((m + 2 * i : Nat) : Int), (rd_T30 ys (i : Int)).f1⟩ : S30)) (i : Int)).f0 = ((m + 2 * i : Nat) : Int) := by
        unfold rd_T30
        rw [Int.toNat_natCast, List.getD_eq_getElem?_getD, List.getElem?_set_self (by omega)]
        rfl
      rw [e, List.set_set]
      rw [show m + 2 * (i + 1) = m + 2 * i + 1 + 1 from by omega] at h
      exact h)
  · refine ev_heldL n m 2 (fun k q i => laws_heldLabelS.l0 k (marks (fun n => (⟨(n : Int), T (n + 1)⟩ : S30)) m 2 n) q i) (fun q => by
      refine Ev.succ ?_
      simp only [laws_heldLabelS.l0]
      exact Ev.neg (by rw [marks_length]; omega) (Ev.val rfl)) (fun i r hi h => by
      have hm2 : i < (marks (fun n => (⟨(n : Int), T (n + 1)⟩ : S30)) m 2 n).length := by rw [marks_length]; exact hi
      have e : rd_T30 (marks (fun n => (⟨(n : Int), T (n + 1)⟩ : S30)) m 2 n) (i : Int) = ⟨((m + 2 * i : Nat) : Int), T (m + 2 * i + 1)⟩ := by
        unfold rd_T30
        rw [Int.toNat_natCast, List.getD_eq_getElem?_getD, List.getElem?_eq_getElem hm2, marks_at]
        rfl
      refine Ev.succ ?_
      simp only [laws_heldLabelS.l0]
      rw [e, wS (m + 2 * i) (by omega), wS (m + 2 * i + 1) (by omega), wS i (by omega)]
      rw [show m + 2 * (i + 1) = m + 2 * i + 1 + 1 from by omega] at h
      exact Ev.pos (by omega) (Ev.pos (by omega) (Ev.pos rfl (Ev.bnd (hT _ (by omega)) (Ev.pos rfl h)))))
end Go.Proofs.YtckdocofmffheaaDoor.Pv
/- Marks on rules: numbers and numbered texts are written into what came in. No condition but sound lengths. -/
namespace Go.Proofs.YtckdocofmffheaaDoor.Pv
set_option linter.unusedSimpArgs false
set_option linter.unusedVariables false
open Go.RowKit Go.Proofs.YtckdocofmffheaaDoor.Q Go.Proofs.YtckdocofmffheaaDoorW.PrintWords Go.Proofs.YtckdocofmffheaaDoorW.PrintLast Go.Proofs.YtckdocofmffheaaDoorW.PrintMore
theorem rdR_set (ys : List S41) (i : Nat) (x : S41) (h : i < ys.length) : rd_T41 (ys.set i x) (i : Int) = x := by
  unfold rd_T41
  rw [Int.toNat_natCast, List.getD_eq_getElem?_getD, List.getElem?_set_self h]
  rfl
theorem mark_R (xs : List S41) (m : Nat) (hm : m + 3 * xs.length ≤ 140737488351232) : ∃ ys, Ev (fun k => laws_markRuleS.f k xs (m : Int)) (((m + 3 * xs.length : Nat) : Int), ys) := by
  obtain ⟨T, hT⟩ := mark_text
  refine ⟨_, ev_markL xs (fun n => (⟨T n, ((n + 1 : Nat) : Int), T (n + 2)⟩ : S41)) m 3 (fun k ys m i => laws_markRuleS.l0 k ys m i) (fun ys q hy => by
      refine Ev.succ ?_
      simp only [laws_markRuleS.l0]
      exact Ev.neg (by omega) (Ev.val rfl)) (fun i ys r hi hy h => by
      refine Ev.succ ?_
      simp only [laws_markRuleS.l0]
      rw [wS (m + 3 * i) (by omega), wS (m + 3 * i + 1) (by omega), wS (m + 3 * i + 1 + 1) (by omega), wS i (by omega), Int.toNat_natCast]
      refine Ev.pos (by omega) (Ev.bnd (hT _ (by omega)) (Ev.pos (by omega) (Ev.some_bind (Ev.some_bind (Ev.bnd (hT _ (by omega)) ?_)))))
      rw [rdR_set _ _ _ (by first | omega | (rw [List.length_set]; omega)), List.set_set, rdR_set _ _ _ (by first | omega | (rw [List.length_set]; omega)), List.set_set]
      rw [show m + 3 * (i + 1) = m + 3 * i + 1 + 1 + 1 from by omega] at h
      exact h)⟩
end Go.Proofs.YtckdocofmffheaaDoor.Pv
/- A rule's size in the laws. No condition but sound lengths. -/
namespace Go.Proofs.YtckdocofmffheaaDoor.Pv
set_option linter.unusedSimpArgs false
set_option linter.unusedVariables false
open Go.RowKit Go.Proofs.YtckdocofmffheaaDoor.Q Go.Proofs.YtckdocofmffheaaDoorW.PrintWords Go.Proofs.YtckdocofmffheaaDoorW.PrintLast Go.Proofs.YtckdocofmffheaaDoorW.PrintMore
theorem szRule_eq (p : ByteArray) (n : Int) (s : ByteArray) (gp : p.size ≤ 9223372036854775807) (gs : s.size ≤ 9223372036854775807) (a : Int) (ha : 0 ≤ a) (hb : a ≤ 1048576) : laws_szRule.f p n s a = some (spend a (p.size + s.size)) := by
  unfold laws_szRule.f
  rw [w_id (x := a - (p.size : Int)) (by omega) (by omega)]
  by_cases h : a - (p.size : Int) < 0
  · rw [if_pos h, spend_no (by omega)]
  · rw [if_neg h, w_id (by omega) (by omega)]
    by_cases h2 : a - (p.size : Int) - (s.size : Int) < 0
    · rw [if_pos h2, spend_no (by omega)]
    · rw [if_neg h2, spend_yes (by omega)]
      congr 1
      omega
end Go.Proofs.YtckdocofmffheaaDoor.Pv
/- Rules and slices of rules in the laws: their sizes, their copies, their comparison. No condition but sound lengths. -/
namespace Go.Proofs.YtckdocofmffheaaDoor.Pv
set_option linter.unusedSimpArgs false
set_option linter.unusedVariables false
open Go.RowKit Go.Proofs.YtckdocofmffheaaDoor.Q Go.Proofs.YtckdocofmffheaaDoorW.PrintWords Go.Proofs.YtckdocofmffheaaDoorW.PrintLast Go.Proofs.YtckdocofmffheaaDoorW.PrintMore
/-- A rule of the laws as one of the program's. -/
def ruTo (x : S38) : S41 := ⟨x.f0, x.f1, x.f2⟩
theorem ev_szRuleS (xs : List S38) (g : gL g38 xs) (a : Int) (ha : 0 ≤ a) (hb : a ≤ 1048576) : Ev (fun k => laws_szRuleS.f k xs a) (spend a (xs.length + (xs.map fun x => x.f0.size + x.f2.size).sum)) := by
  have hl : xs.length ≤ 9223372036854775807 := g.2
  refine ev_spendS xs (fun x => x.f0.size + x.f2.size) (fun k a i => laws_szRuleS.l0 k xs a i) hl (fun a => ?_) (fun i hi a r hm ha hb hn hy => ?_) a ha hb
  · refine Ev.succ ?_
    simp only [laws_szRuleS.l0]
    exact Ev.neg (by omega) (Ev.val rfl)
  · have hs0 : xs[i].f0.size ≤ 9223372036854775807 := (g.1 _ (List.getElem_mem hi)).1
    have hs : xs[i].f2.size ≤ 9223372036854775807 := (g.1 _ (List.getElem_mem hi)).2.2
    refine Ev.succ ?_
    simp only [laws_szRuleS.l0]
    rw [show rd_T38 xs (i : Int) = xs[i] from getD_at _ _ _ hi, szRule_eq _ _ _ hs0 hs a ha hb, wS i (by omega)]
    refine Ev.pos (by omega) (Ev.pos (by omega) (Ev.some_bind ?_))
    unfold spend
    by_cases h : ((xs[i].f0.size + xs[i].f2.size : Nat) : Int) ≤ a
    · rw [if_pos h]
      exact Ev.neg (by omega) (hy h)
    · rw [if_neg h]
      exact Ev.pos (by omega) (Ev.val (hn (by omega)).symm)
theorem ev_toRuleS (xs : List S38) (hl : xs.length ≤ 1048576) : Ev (fun k => laws_toRuleS.f k xs) (xs.map ruTo) := by
  unfold laws_toRuleS.f
  refine Ev.pos (by omega) (Ev.pos (by omega) ?_)
  rw [Int.toNat_natCast]
  refine ev_copyL xs ruTo _ (fun k ys i => laws_toRuleS.l0 k xs ys i) (fun ys => ?_) (fun i hi ys r hy h => ?_)
  · refine Ev.succ ?_
    simp only [laws_toRuleS.l0]
    exact Ev.neg (by omega) (Ev.val rfl)
  · refine Ev.succ ?_
    simp only [laws_toRuleS.l0, laws_toRule.f, Option.bind_some]
    rw [show rd_T38 xs (i : Int) = xs[i] from getD_at _ _ _ hi, wS i (by omega), Int.toNat_natCast]
    exact Ev.pos (by omega) (Ev.pos (by omega) (Ev.pos (by omega) h))
theorem eqRule_self (p : ByteArray) (n : Int) (s : ByteArray) : laws_eqRule.f p n s p n s = some true := by
  unfold laws_eqRule.f
  rw [if_pos rfl, if_pos rfl, if_pos rfl]
theorem ev_eqRuleS (xs : List S41) (hl : xs.length ≤ 1048576) : Ev (fun k => laws_eqRuleS.f k xs xs) true := by
  unfold laws_eqRuleS.f
  refine Ev.pos rfl (ev_all xs.length true (fun k i => laws_eqRuleS.l0 k xs xs i) ?_ (fun i hi h => ?_))
  · refine Ev.succ ?_
    simp only [laws_eqRuleS.l0]
    exact Ev.neg (by omega) (Ev.val rfl)
  · refine Ev.succ ?_
    simp only [laws_eqRuleS.l0, eqRule_self, Option.bind_some]
    rw [wS i (by omega)]
    exact Ev.pos (by omega) (Ev.pos (by omega) (Ev.pos (by omega) (Ev.pos trivial h)))
theorem rules_fit {a : Int} {xs : List S38} (hb : a ≤ 1048576) (h : ¬ spend a (xs.length + (xs.map fun x => x.f0.size + x.f2.size).sum) < 0) : xs.length ≤ 1048576 := by
  have h1 := (spend_ge h).1
  omega
end Go.Proofs.YtckdocofmffheaaDoor.Pv
/- The law FnExactBroken answers true at every input. No condition. -/
namespace Go.Proofs.YtckdocofmffheaaDoor.Pure
set_option linter.unusedSimpArgs false
set_option linter.unusedVariables false
open Go.RowKit Go.Proofs.YtckdocofmffheaaDoor.Q Go.Proofs.YtckdocofmffheaaDoor.Pv Go.Proofs.YtckdocofmffheaaDoorW.PrintWords Go.Proofs.YtckdocofmffheaaDoorW.PrintLast Go.Proofs.YtckdocofmffheaaDoorW.PrintMore
theorem FnExactBroken : ∀ (x0 : List S38) (a1 : ByteArray) (x2 : List S49), (gL g38) x0 → a1.size ≤ 140737488351232 → (gL g49) x2 → ∃ k, laws_FnExactBroken.f k x0 a1 x2 = some true := by
  intro xs nm ys gx gn gy
  refine Ev.rounds ?_
  unfold laws_FnExactBroken.f
  refine Ev.ite (fun _ => Ev.val rfl) (fun _ => ?_)
  refine Ev.bnd (ev_szRuleS xs gx _ (by omega) (by omega)) (Ev.ite (fun _ => Ev.val rfl) (fun hs => ?_))
  have h2 := spend_ge hs
  have hl := rules_fit (by omega) hs
  refine Ev.bnd (ev_szLabelS ys gy _ (by omega) (by omega)) (Ev.ite (fun _ => Ev.val rfl) (fun hs2 => ?_))
  have h3 := spend_ge hs2
  have hl2 := (labels_fit (by omega) hs2).1
  have ht := ev_toRuleS xs hl
  have ht2 := ev_toLabelS ys hl2
  have hm : (xs.map ruTo).length ≤ 1048576 := by simp; omega
  have hm2 : (ys.map lbTo).length ≤ 1048576 := by simp; omega
  have hbl : (brAll (xs.map ruTo) nm (ys.map lbTo)).length ≤ 1048576 := Nat.le_trans (brAll_len _ _ _) hm2
  obtain ⟨T, hM, hH⟩ := mark_heldL
  obtain ⟨zs, hM1⟩ := mark_R (xs.map ruTo) 1 (by omega)
  have hM2 := hM (ys.map lbTo) (1 + 3 * (xs.map ruTo).length) (by omega)
  have hM3 := hM (brAll (xs.map ruTo) nm (ys.map lbTo)) 1 (by omega)
  have hH3 := hH (brAll (xs.map ruTo) nm (ys.map lbTo)).length 1 (by omega)
  refine Ev.bnd ht (Ev.bnd ht2 (Ev.bnd (ev_spec_Broken _ _ _ hm hm2) (Ev.bnd ht (Ev.bnd ht2 (Ev.bnd (ev_Broken _ _ _ hm2) (Ev.bnd (ev_eqLabelS _ hbl) (Ev.pos rfl (Ev.bnd ht (Ev.bnd (ev_eqRuleS _ hm) (Ev.pos rfl (Ev.bnd ht2 (Ev.bnd (ev_eqLabelS _ hm2) (Ev.pos rfl (Ev.bnd hM1 (Ev.bnd hM2 (Ev.neg (by simp only; omega) (Ev.bnd (ev_eqLabelS _ hbl) ?_)))))))))))))))))
  refine Ev.succ ?_
  simp only [laws_FnExactBroken.j0]
  exact Ev.neg (by simp) (Ev.bnd hM3 (Ev.bnd hH3 (Ev.neg (by omega) (Ev.pos rfl (Ev.bnd ht (Ev.bnd ht2 (Ev.bnd (ev_Broken _ _ _ hm2) (Ev.bnd (ev_eqLabelS _ hbl) (Ev.pos rfl (Ev.bnd hH3 (Ev.neg (by omega) (Ev.pos rfl (Ev.val rfl)))))))))))))
end Go.Proofs.YtckdocofmffheaaDoor.Pure
