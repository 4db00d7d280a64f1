/- What the Go functions on names come to: strings.Split at '.', the reference's cut, NameOk. No condition beyond the sizes. -/
import Derived.Test.YtihggojbeohlkaaDoorBy
import Derived.Test.YtihggojbeohlkaaDoorNm
import Derived.Test.YtihggojbeohlkaaDoorSl
import Derived.Test.YtihggojbeohlkaaDoorQ3
import Derived.Test.YtihggojbeohlkaaDoorQ4
import Derived.Test.YtihggojbeohlkaaDoorQ5
import Derived.Test.YtihggojbeohlkaaDoorQ6
import Derived.Test.YtihggojbeohlkaaDoorQ7
import Derived.Test.YtihggojbeohlkaaDoorQ8
namespace Go.Proofs.YtihggojbeohlkaaDoor.Pv
set_option linter.unusedSimpArgs false
set_option linter.unusedVariables false
open Go.RowKit Go.Proofs.YtihggojbeohlkaaDoor.Q Go.Proofs.YtihggojbeohlkaaDoorW.PrintWords Go.Proofs.YtihggojbeohlkaaDoorW.PrintLast Go.Proofs.YtihggojbeohlkaaDoorW.PrintMore
theorem idx_spec (l : List UInt8) (c : UInt8) : (Lib.indexByte l c = -1 ∧ c ∉ l) ∨ ∃ m : Nat, Lib.indexByte l c = (m : Int) ∧ m < l.length ∧ l = l.take m ++ c :: l.drop (m + 1) ∧ c ∉ l.take m := by
  induction l with
  | nil => exact .inl ⟨rfl, by simp⟩
  | cons b l ih =>
    by_cases h : b = c
    · subst h
      refine .inr ⟨0, ?_, by simp, by simp, by simp⟩
      simp [Lib.indexByte]
    · rcases ih with ⟨h1, h2⟩ | ⟨m, h1, h2, h3, h4⟩
      · refine .inl ⟨?_, ?_⟩
        · unfold Lib.indexByte
          rw [if_neg (by simpa using h), if_pos (by simpa using h1)]
        · simp only [List.mem_cons, not_or]
          exact ⟨fun e => h e.symm, h2⟩
      · refine .inr ⟨m + 1, ?_, by simpa using h2, ?_, ?_⟩
        · unfold Lib.indexByte
          rw [if_neg (by simpa using h), h1, if_neg (fun e => by have := beq_iff_eq.1 e; omega)]
          rfl
        · simpa using h3
        · simp only [List.take_succ_cons, List.mem_cons, not_or]
          exact ⟨fun e => h e.symm, h4⟩
theorem idx_bytes (s : ByteArray) (c : UInt8) : (Lib.indexByte s.data.toList c = -1 ∧ ((c.toNat : Nat) : Int) ∉ bytesOf s) ∨
    ∃ m : Nat, Lib.indexByte s.data.toList c = (m : Int) ∧ m < s.size ∧ bytesOf s = (bytesOf s).take m ++ ((c.toNat : Nat) : Int) :: (bytesOf s).drop (m + 1) ∧ ((c.toNat : Nat) : Int) ∉ (bytesOf s).take m := by
  have inj : ∀ l : List UInt8, ((c.toNat : Nat) : Int) ∈ l.map (fun b => ((b.toNat : Nat) : Int)) → c ∈ l := by
    intro l h
    obtain ⟨b, hb, e⟩ := List.mem_map.1 h
    have : b = c := UInt8.toNat_inj.1 (by exact_mod_cast e)
    exact this ▸ hb
  rcases idx_spec s.data.toList c with ⟨h1, h2⟩ | ⟨m, h1, h2, h3, h4⟩
  · exact .inl ⟨h1, fun h => h2 (inj _ h)⟩
  · refine .inr ⟨m, h1, by rw [Array.length_toList] at h2; exact h2, ?_, ?_⟩
    · unfold bytesOf
      rw [← List.map_take, ← List.map_drop]
      conv => lhs; rw [h3]
      simp
    · unfold bytesOf
      rw [← List.map_take]
      exact fun h => h4 (inj _ h)
theorem bl_extract (s : ByteArray) (a b : Nat) : bytesOf (s.extract a b) = ((bytesOf s).drop a).take (b - a) := by
  unfold bytesOf
  rw [Lib.extract_data, List.map_take, List.map_drop]
theorem toList_nil (s : ByteArray) : s.toList = [] ↔ bytesOf s = [] := by
  rw [ByteArray.toList_eq]
  unfold bytesOf
  rw [List.map_eq_nil_iff]
theorem take_set_succ {α : Type} (l : List α) (i : Nat) (x : α) (h : i < l.length) : (l.set i x).take (i + 1) = l.take i ++ [x] := by
  rw [List.take_succ_eq_append_getElem (by simpa using h), List.take_set_of_le (Nat.le_refl i)]
  simp
theorem countByte_bytes (s : ByteArray) (c : UInt8) : Lib.countByte s.data.toList c = (bytesOf s).count ((c.toNat : Nat) : Int) := by
  unfold bytesOf Lib.countByte
  generalize s.data.toList = l
  induction l with
  | nil => rfl
  | cons b l ih =>
    rw [List.map_cons, List.count_cons, List.count_cons, ih]
    have hb : (b == c) = (((b.toNat : Nat) : Int) == ((c.toNat : Nat) : Int)) := by
      rw [Bool.eq_iff_iff, beq_iff_eq, beq_iff_eq]
      constructor
      · rintro rfl
        rfl
      · intro h
        exact UInt8.toNat_inj.1 (by exact_mod_cast h)
    rw [hb]
theorem splitB_cut (c : UInt8) : ∀ (d : Nat) (s : ByteArray), (bytesOf s).count ((c.toNat : Nat) : Int) = d → (Lib.splitB ⟨#[c]⟩ 0 d s).map bytesOf = cutL ((c.toNat : Nat) : Int) (bytesOf s) := by
  intro d
  induction d with
  | zero =>
    intro s hd
    rw [Lib.splitB_zero, cutL_none _ _ (List.count_eq_zero.1 hd)]
    rfl
  | succ d ih =>
    intro s hd
    have hm : ((c.toNat : Nat) : Int) ∈ bytesOf s := List.count_pos_iff.1 (by omega)
    rcases idx_bytes s c with ⟨_, h2⟩ | ⟨m, h1, h2, h3, h4⟩
    · exact absurd hm h2
    have hc : ((bytesOf s).drop (m + 1)).count ((c.toNat : Nat) : Int) = d := by
      rw [h3, List.count_append, List.count_cons_self, List.count_eq_zero.2 h4] at hd
      omega
    have hb2 : bytesOf (s.extract (m + 1) s.size) = (bytesOf s).drop (m + 1) := by
      rw [bl_extract, List.take_of_length_le (by rw [List.length_drop, bl_length]; omega)]
    have hi : Lib.indexB s ⟨#[c]⟩ = (m : Int) := (Lib.index_one s.data.toList c).trans h1
    rw [Lib.splitB_hit ⟨#[c]⟩ 0 d s m hi, List.map_cons]
    have e := ih (s.extract (m + 1) s.size) (by rw [hb2]; exact hc)
    have e2 : (Lib.splitB ⟨#[c]⟩ 0 d (s.extract (m + (⟨#[c]⟩ : ByteArray).size) s.size)).map bytesOf = cutL ((c.toNat : Nat) : Int) (bytesOf (s.extract (m + 1) s.size)) := e
    rw [e2, hb2, bl_extract, List.drop_zero, Nat.sub_zero]
    conv => rhs; rw [h3, cutL_first _ _ _ h4]
    rfl
theorem split_any (c : UInt8) (s : ByteArray) (hs : s.size ≤ 4294967000) : ∃ r, strings_Split.f s ⟨#[c]⟩ = some r ∧ r.map bytesOf = cutL ((c.toNat : Nat) : Int) (bytesOf s) := by
  have hcount : Lib.countB s ⟨#[c]⟩ = (bytesOf s).count ((c.toNat : Nat) : Int) := (Lib.count_one c s.data.toList).trans (countByte_bytes s c)
  have hcl : (bytesOf s).count ((c.toNat : Nat) : Int) ≤ s.size := by
    rw [← bl_length]
    exact List.count_le_length
  refine ⟨Lib.splitB ⟨#[c]⟩ 0 ((bytesOf s).count ((c.toNat : Nat) : Int)) s, ?_, splitB_cut c _ s rfl⟩
  unfold strings_Split.f
  have e : strings_genSplit.f s ⟨#[c]⟩ 0 (-1) = some (Lib.splitB ⟨#[c]⟩ 0 ((bytesOf s).count ((c.toNat : Nat) : Int)) s) := by
    show (if (0 : Int) = 0 ∧ (-1 : Int) = -1 ∧ s.size < 4294967281 then some (Lib.splitB ⟨#[c]⟩ 0 (min (Lib.countB s ⟨#[c]⟩ + 1) (s.size + 1) - 1) s) else none) = _
    rw [if_pos ⟨rfl, rfl, by omega⟩, hcount, show min ((bytesOf s).count ((c.toNat : Nat) : Int) + 1) (s.size + 1) - 1 = (bytesOf s).count ((c.toNat : Nat) : Int) from by omega]
  rw [e]
  rfl
theorem split_dot (s : ByteArray) (hs : s.size ≤ 4294967000) : ∃ r, strings_Split.f s ⟨#[46]⟩ = some r ∧ r.map bytesOf = cutL 46 (bytesOf s) := split_any 46 s hs
theorem cut_l0 (s : ByteArray) (hs : s.size ≤ 1048576) (c : Int) : ∀ (d b i : Nat) (out : List ByteArray), i + d = s.size → b ≤ i → out.length ≤ i → c ∉ ((bytesOf s).drop b).take (i - b) →
    ∃ r, Ev (fun k => spec_l02Cut.l0 k s c out (b : Int) (i : Int)) r ∧ r.map bytesOf = out.map bytesOf ++ ahead (((bytesOf s).drop b).take (i - b)) (cutL c ((bytesOf s).drop i)) := by
  intro d
  induction d with
  | zero =>
    intro b i out hi hb ho hf
    refine ⟨out ++ [s.extract b i], Ev.succ ?_, ?_⟩
    · simp only [spec_l02Cut.l0]
      refine Ev.pos (by omega) (Ev.pos (by omega) (Ev.pos (by omega) (Ev.pos (by omega) (Ev.pos (by omega) (Ev.succ ?_)))))
      rw [wS i (by omega)]
      simp only [spec_l02Cut.l0]
      refine Ev.neg (by omega) (Ev.val ?_)
      rw [Int.toNat_natCast, Int.toNat_natCast]
    · rw [List.map_append]
      congr 1
      have : (bytesOf s).drop i = [] := by rw [List.drop_eq_nil_iff, bl_length]; omega
      rw [this]
      simp [cutL, ahead, bl_extract]
  | succ d ih =>
    intro b i out hi hb ho hf
    have hlt : i < s.size := by omega
    by_cases he : bt s (i : Int) = c
    · obtain ⟨r, hev, hr⟩ := ih (i + 1) (i + 1) (out ++ [s.extract b i]) (by omega) (by omega) (by simp; omega) (by simp)
      refine ⟨r, Ev.succ ?_, ?_⟩
      · simp only [spec_l02Cut.l0]
        refine Ev.pos (by omega) (Ev.neg (by omega) (Ev.pos (by omega) (Ev.pos (by omega) (Ev.pos he (Ev.pos (by omega) (Ev.pos (by omega) (Ev.pos (by omega) ?_)))))))
        rw [wS i (by omega), Int.toNat_natCast, Int.toNat_natCast]
        exact hev
      · rw [hr, bl_drop s i hlt, he, cutL_here, List.map_append, Nat.sub_self, List.take_zero, ahead_nil (cutL_ne c _), List.append_assoc]
        congr 1
        simp [ahead, bl_extract]
    · have e1 : ((bytesOf s).drop b).take (i + 1 - b) = ((bytesOf s).drop b).take (i - b) ++ [bt s (i : Int)] := by
        rw [show i + 1 - b = (i - b) + 1 from by omega, List.take_succ_eq_append_getElem (by rw [List.length_drop, bl_length]; omega), List.getElem_drop, bt_at s i hlt]
        congr 2
        congr 1
        omega
      obtain ⟨r, hev, hr⟩ := ih b (i + 1) out (by omega) (by omega) (by omega) (by
        rw [e1, List.mem_append, List.mem_singleton]
        rintro (h | h)
        · exact hf h
        · exact he h.symm)
      refine ⟨r, Ev.succ ?_, ?_⟩
      · simp only [spec_l02Cut.l0]
        refine Ev.pos (by omega) (Ev.neg (by omega) (Ev.pos (by omega) (Ev.pos (by omega) (Ev.neg he ?_))))
        rw [wS i (by omega)]
        exact hev
      · rw [hr, e1, bl_drop s i hlt, cutL_other c _ _ he, ahead_ahead _ _ _ (cutL_ne c _)]
theorem ev_Cut (s : ByteArray) (hs : s.size ≤ 1048576) (c : Int) : ∃ r, Ev (fun k => spec_l02Cut.f k s c) r ∧ r.map bytesOf = cutL c (bytesOf s) := by
  obtain ⟨r, he, hr⟩ := cut_l0 s hs c s.size 0 0 [] (by omega) (by omega) (by simp) (by simp)
  refine ⟨r, he, ?_⟩
  rw [hr]
  simp [ahead_nil (cutL_ne c _)]
/-! parts of names -/
theorem low_dig_ok (x : Int) : (isLow x || isDig x) = true ↔ (97 ≤ x ∧ x ≤ 122) ∨ (48 ≤ x ∧ x ≤ 57) := by
  unfold isLow isDig
  simp
theorem part_impl_l0 (s : ByteArray) (hs : s.size ≤ 140737488351232) : ∀ (d i : Nat), i + d = s.size → Ev (fun k => impl_isNamePart.l0 k s (s.size : Int) (i : Int)) (((bytesOf s).drop i).all fun y => isLow y || isDig y) := by
  intro d
  induction d with
  | zero =>
    intro i h
    refine Ev.succ ?_
    simp only [impl_isNamePart.l0]
    refine Ev.neg (by omega) (Ev.val ?_)
    have : (bytesOf s).drop i = [] := by rw [List.drop_eq_nil_iff, bl_length]; omega
    rw [this]
    rfl
  | succ d ih =>
    intro i h
    have hi : i < s.size := by omega
    refine Ev.succ ?_
    simp only [impl_isNamePart.l0]
    refine Ev.pos (by omega) (Ev.pos (by omega) (Ev.pos (by omega) ?_))
    rw [wS i (by omega), bl_drop s i hi, List.all_cons]
    have yes : (isLow (bt s (i : Int)) || isDig (bt s (i : Int))) = true → Ev (fun k => impl_isNamePart.l0 k s (s.size : Int) ((i + 1 : Nat) : Int)) ((isLow (bt s (i : Int)) || isDig (bt s (i : Int))) && ((bytesOf s).drop (i + 1)).all fun y => isLow y || isDig y) := by
      intro hy
      rw [hy, Bool.true_and]
      exact ih (i + 1) (by omega)
    have no : ¬ ((97 ≤ bt s (i : Int) ∧ bt s (i : Int) ≤ 122) ∨ (48 ≤ bt s (i : Int) ∧ bt s (i : Int) ≤ 57)) → Ev (fun _ : Nat => some false) ((isLow (bt s (i : Int)) || isDig (bt s (i : Int))) && ((bytesOf s).drop (i + 1)).all fun y => isLow y || isDig y) := by
      intro hn
      have : (isLow (bt s (i : Int)) || isDig (bt s (i : Int))) = false := by
        rw [Bool.eq_false_iff]
        exact fun e => hn ((low_dig_ok _).1 e)
      rw [this]
      exact Ev.val rfl
    refine Ev.ite (fun h1 => Ev.ite (fun h2 => no (by omega)) (fun h2 => Ev.ite (fun h3 => no (by omega)) (fun h3 => yes ((low_dig_ok _).2 (by omega))))) (fun h1 => Ev.ite (fun h2 => Ev.ite (fun h3 => no (by omega)) (fun h3 => Ev.ite (fun h4 => no (by omega)) (fun h4 => yes ((low_dig_ok _).2 (by omega))))) (fun h2 => yes ((low_dig_ok _).2 (by omega))))
theorem part_spec_l0 (s : ByteArray) (hs : s.size ≤ 140737488351232) : ∀ (d i : Nat), i + d = s.size → Ev (fun k => spec_l02Part.l0 k s (i : Int)) (((bytesOf s).drop i).all fun y => isLow y || isDig y) := by
  intro d
  induction d with
  | zero =>
    intro i h
    refine Ev.succ ?_
    simp only [spec_l02Part.l0]
    refine Ev.neg (by omega) (Ev.val ?_)
    have : (bytesOf s).drop i = [] := by rw [List.drop_eq_nil_iff, bl_length]; omega
    rw [this]
    rfl
  | succ d ih =>
    intro i h
    have hi : i < s.size := by omega
    refine Ev.succ ?_
    simp only [spec_l02Part.l0]
    refine Ev.pos (by omega) (Ev.pos (by omega) ?_)
    rw [wS i (by omega), bl_drop s i hi, List.all_cons]
    have yes : (isLow (bt s (i : Int)) || isDig (bt s (i : Int))) = true → Ev (fun k => spec_l02Part.l0 k s ((i + 1 : Nat) : Int)) ((isLow (bt s (i : Int)) || isDig (bt s (i : Int))) && ((bytesOf s).drop (i + 1)).all fun y => isLow y || isDig y) := by
      intro hy
      rw [hy, Bool.true_and]
      exact ih (i + 1) (by omega)
    have no : ¬ ((97 ≤ bt s (i : Int) ∧ bt s (i : Int) ≤ 122) ∨ (48 ≤ bt s (i : Int) ∧ bt s (i : Int) ≤ 57)) → Ev (fun _ : Nat => some false) ((isLow (bt s (i : Int)) || isDig (bt s (i : Int))) && ((bytesOf s).drop (i + 1)).all fun y => isLow y || isDig y) := by
      intro hn
      have : (isLow (bt s (i : Int)) || isDig (bt s (i : Int))) = false := by
        rw [Bool.eq_false_iff]
        exact fun e => hn ((low_dig_ok _).1 e)
      rw [this]
      exact Ev.val rfl
    refine Ev.ite (fun h1 => Ev.ite (fun h2 => yes ((low_dig_ok _).2 (by omega))) (fun h2 => Ev.ite (fun h3 => Ev.ite (fun h4 => yes ((low_dig_ok _).2 (by omega))) (fun h4 => no (by omega))) (fun h3 => no (by omega)))) (fun h1 => Ev.ite (fun h2 => Ev.ite (fun h3 => yes ((low_dig_ok _).2 (by omega))) (fun h3 => no (by omega))) (fun h2 => no (by omega)))
theorem partOk_at (s : ByteArray) (h : 0 < s.size) : partOk (bytesOf s) = (isLow (bt s 0) && (bytesOf s).all fun y => isLow y || isDig y) := by
  have e := bl_drop s 0 h
  rw [List.drop_zero] at e
  rw [e]
  rfl
theorem ev_isNamePart (s : ByteArray) (hs : s.size ≤ 140737488351232) : Ev (fun k => impl_isNamePart.f k s) (partOk (bytesOf s)) := by
  unfold impl_isNamePart.f
  by_cases h0 : s.size = 0
  · have hb : bytesOf s = [] := by rw [← List.length_eq_zero_iff, bl_length]; exact h0
    refine Ev.pos ((toList_nil s).2 hb) (Ev.succ ?_)
    simp only [impl_isNamePart.j0]
    refine Ev.pos (by simp) (Ev.val ?_)
    rw [hb]
    rfl
  · refine Ev.neg (fun e => h0 ?_) (Ev.pos (by omega) ?_)
    · rw [← bl_length, (toList_nil s).1 e]
      rfl
    · rw [partOk_at s (by omega)]
      have all := part_impl_l0 s hs s.size 0 (by omega)
      rw [List.drop_zero] at all
      refine Ev.ite (fun h1 => Ev.succ ?_) (fun h1 => Ev.succ ?_)
      · simp only [impl_isNamePart.j0]
        refine Ev.pos (by simp) (Ev.val ?_)
        unfold isLow
        rw [decide_eq_false (by omega)]
        rfl
      · simp only [impl_isNamePart.j0]
        by_cases h2 : bt s 0 > 122
        · refine Ev.pos (by simpa using h2) (Ev.val ?_)
          unfold isLow
          rw [decide_eq_false (by omega)]
          rfl
        · refine Ev.neg (by simpa using h2) (Ev.cast all ?_)
          rw [show isLow (bt s 0) = true from decide_eq_true (by omega), Bool.true_and]
theorem ev_l02Part (s : ByteArray) (hs : s.size ≤ 140737488351232) : Ev (fun k => spec_l02Part.f k s) (partOk (bytesOf s)) := by
  unfold spec_l02Part.f
  by_cases h0 : s.size = 0
  · have hb : bytesOf s = [] := by rw [← List.length_eq_zero_iff, bl_length]; exact h0
    refine Ev.pos (by omega) (Ev.succ ?_)
    simp only [spec_l02Part.j0]
    refine Ev.pos (by simp) (Ev.val ?_)
    rw [hb]
    rfl
  · refine Ev.neg (by omega) (Ev.pos (by omega) ?_)
    rw [partOk_at s (by omega)]
    have all := part_spec_l0 s hs s.size 0 (by omega)
    rw [List.drop_zero] at all
    refine Ev.ite (fun h1 => Ev.succ ?_) (fun h1 => Ev.succ ?_)
    · simp only [spec_l02Part.j0]
      refine Ev.pos (by simp) (Ev.val ?_)
      unfold isLow
      rw [decide_eq_false (by omega)]
      rfl
    · simp only [spec_l02Part.j0]
      by_cases h2 : bt s 0 > 122
      · refine Ev.pos (by simpa using h2) (Ev.val ?_)
        unfold isLow
        rw [decide_eq_false (by omega)]
        rfl
      · refine Ev.neg (by simpa using h2) (Ev.cast all ?_)
        rw [show isLow (bt s 0) = true from decide_eq_true (by omega), Bool.true_and]
theorem index_part (xs : List ByteArray) (hx : xs.length ≤ 140737488351232) (hz : ∀ x ∈ xs, x.size ≤ 140737488351232) : ∀ (d i : Nat), i + d = xs.length → ∃ r : Int, Ev (fun k => slices_IndexFunc_string_string_at_impl_NameOk_1.l0 k xs (xs.length : Int) (i : Int)) r ∧ (decide (r ≥ 0) = !((xs.drop i).all fun x => partOk (bytesOf x))) := by
  intro d
  induction d with
  | zero =>
    intro i h
    refine ⟨-1, Ev.succ ?_, ?_⟩
    · simp only [slices_IndexFunc_string_string_at_impl_NameOk_1.l0]
      exact Ev.neg (by omega) (Ev.val rfl)
    · rw [List.drop_eq_nil_iff.2 (by omega)]
      rfl
  | succ d ih =>
    intro i h
    have hi : i < xs.length := by omega
    rw [List.drop_eq_getElem_cons hi]
    obtain ⟨r, he, hr⟩ := ih (i + 1) (by omega)
    have hp := ev_isNamePart xs[i] (hz _ (List.getElem_mem hi))
    cases hb : partOk (bytesOf xs[i])
    · refine ⟨(i : Int), Ev.succ ?_, ?_⟩
      · simp only [slices_IndexFunc_string_string_at_impl_NameOk_1.l0]
        refine Ev.pos (by omega) (Ev.pos (by omega) (Ev.pos (by omega) ?_))
        rw [rdOf_at _ xs i hi]
        unfold impl_NameOk_1.f
        rw [hb] at hp
        exact Ev.bnd (a := true) (Ev.bnd hp (Ev.val rfl)) (Ev.pos rfl (Ev.val rfl))
      · rw [List.all_cons, hb, Bool.false_and, decide_eq_true (by omega)]
        rfl
    · refine ⟨r, Ev.succ ?_, ?_⟩
      · simp only [slices_IndexFunc_string_string_at_impl_NameOk_1.l0]
        refine Ev.pos (by omega) (Ev.pos (by omega) (Ev.pos (by omega) ?_))
        rw [rdOf_at _ xs i hi]
        unfold impl_NameOk_1.f
        rw [hb] at hp
        refine Ev.bnd (a := false) (Ev.bnd hp (Ev.val rfl)) (Ev.neg (by simp) ?_)
        rw [wS i (by omega)]
        exact he
      · rw [hr, List.all_cons, hb, Bool.true_and]
theorem map_all {xs : List ByteArray} {ps : List (List Int)} (h : xs.map bytesOf = ps) : (xs.all fun x => partOk (bytesOf x)) = ps.all partOk := by
  rw [← h, List.all_map]
  rfl
theorem cut_sizes {s : ByteArray} {xs : List ByteArray} (h : xs.map bytesOf = cutL 46 (bytesOf s)) : ∀ x ∈ xs, x.size ≤ s.size := by
  have key : ∀ (c : Int) (l : List Int), ∀ p ∈ cutL c l, p.length ≤ l.length := by
    intro c l
    induction l with
    | nil =>
      intro p hp
      simp [cutL] at hp
      simp [hp]
    | cons x l ih =>
      intro p hp
      by_cases hx : x = c
      · rw [hx, cutL_here] at hp
        rcases List.mem_cons.1 hp with rfl | hp
        · simp
        · have := ih p hp
          simp
          omega
      · rw [cutL_other c x l hx] at hp
        cases e : cutL c l with
        | nil => exact absurd e (cutL_ne c l)
        | cons q qs =>
          rw [e] at hp ih
          rcases List.mem_cons.1 hp with rfl | hp
          · have := ih q (by simp)
            simp
            omega
          · have := ih p (by simp [hp])
            simp
            omega
  intro x hx
  have := key 46 (bytesOf s) (bytesOf x) (by rw [← h]; exact List.mem_map_of_mem hx)
  rwa [bl_length, bl_length] at this
theorem ev_NameOk (s : ByteArray) : Ev (fun k => impl_NameOk.f k s) (nameOk (bytesOf s)) := by
  unfold impl_NameOk.f nameOk
  rw [bl_length]
  by_cases h40 : (s.size : Int) > 40
  · refine Ev.pos h40 (Ev.val ?_)
    rw [decide_eq_false (by omega)]
    rfl
  refine Ev.neg h40 ?_
  rw [decide_eq_true (show s.size ≤ 40 by omega), Bool.true_and]
  obtain ⟨r, he, hr⟩ := split_dot s (by omega)
  have hlen : r.length = (cutL 46 (bytesOf s)).length := by rw [← hr, List.length_map]
  have hcl : (bytesOf s).count 46 ≤ s.size := by
    rw [← bl_length]
    exact List.count_le_length
  have hl2 := cutL_length 46 (bytesOf s)
  rw [he]
  refine Ev.some_bind ?_
  rw [← hlen]
  by_cases h5 : r.length ≤ 5
  · refine Ev.pos (by omega) ?_
    rw [decide_eq_true h5, Bool.true_and]
    unfold slices_ContainsFunc_string_string_at_impl_NameOk_1.f slices_IndexFunc_string_string_at_impl_NameOk_1.f
    obtain ⟨q, hq, hd⟩ := index_part r (by omega) (fun x hx => Nat.le_trans (cut_sizes hr x hx) (by omega)) r.length 0 (by omega)
    rw [List.drop_zero, map_all hr] at hd
    exact Ev.bnd (Ev.bnd hq (Ev.val rfl)) (Ev.val (by rw [hd, Bool.not_not]))
  · refine Ev.neg (by omega) (Ev.val ?_)
    rw [decide_eq_false h5]
    rfl
theorem spec_nameOk_l0 (xs : List ByteArray) (hx : xs.length ≤ 140737488351232) (hz : ∀ x ∈ xs, x.size ≤ 140737488351232) : ∀ (d i : Nat), i + d = xs.length → Ev (fun k => spec_NameOk.l0 k xs (i : Int)) ((xs.drop i).all fun x => partOk (bytesOf x)) := by
  intro d
  induction d with
  | zero =>
    intro i h
    refine Ev.succ ?_
    simp only [spec_NameOk.l0]
    refine Ev.neg (by omega) (Ev.val ?_)
    rw [List.drop_eq_nil_iff.2 (by omega)]
    rfl
  | succ d ih =>
    intro i h
    have hi : i < xs.length := by omega
    refine Ev.succ ?_
    simp only [spec_NameOk.l0]
    refine Ev.pos (by omega) (Ev.pos (by omega) ?_)
    rw [rdOf_at _ xs i hi, List.drop_eq_getElem_cons hi, List.all_cons]
    refine Ev.bnd (ev_l02Part xs[i] (hz _ (List.getElem_mem hi))) ?_
    cases hb : partOk (bytesOf xs[i])
    · exact Ev.neg (by simp) (Ev.val rfl)
    · refine Ev.pos rfl ?_
      rw [wS i (by omega), Bool.true_and]
      exact ih (i + 1) (by omega)
theorem ev_spec_NameOk (s : ByteArray) : Ev (fun k => spec_NameOk.f k s) (nameOk (bytesOf s)) := by
  unfold spec_NameOk.f nameOk
  rw [bl_length]
  by_cases h40 : (s.size : Int) > 40
  · refine Ev.pos h40 (Ev.val ?_)
    rw [decide_eq_false (by omega)]
    rfl
  refine Ev.neg h40 ?_
  rw [decide_eq_true (show s.size ≤ 40 by omega), Bool.true_and]
  obtain ⟨r, he, hr⟩ := ev_Cut s (by omega) 46
  have hlen : r.length = (cutL 46 (bytesOf s)).length := by rw [← hr, List.length_map]
  have hcl : (bytesOf s).count 46 ≤ s.size := by
    rw [← bl_length]
    exact List.count_le_length
  have hl2 := cutL_length 46 (bytesOf s)
  refine Ev.bnd he ?_
  rw [← hlen]
  by_cases h5 : r.length ≤ 5
  · refine Ev.neg (by omega) ?_
    rw [decide_eq_true h5, Bool.true_and, ← map_all hr]
    have := spec_nameOk_l0 r (by omega) (fun x hx => Nat.le_trans (cut_sizes hr x hx) (by omega)) r.length 0 (by omega)
    rwa [List.drop_zero] at this
  · refine Ev.pos (by omega) (Ev.val ?_)
    rw [decide_eq_false h5]
    rfl
end Go.Proofs.YtihggojbeohlkaaDoor.Pv
