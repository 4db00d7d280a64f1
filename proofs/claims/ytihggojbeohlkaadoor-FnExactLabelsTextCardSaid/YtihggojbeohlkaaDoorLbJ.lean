/- What LabelsText comes to, of the program and of the reference: the texts of the sound labels, commas between. No condition beyond the sizes. -/
import Derived.Test.YtihggojbeohlkaaDoorLbT
import Derived.Test.YtihggojbeohlkaaDoorQ6
import Derived.Test.YtihggojbeohlkaaDoorQ9
namespace Go.Proofs.YtihggojbeohlkaaDoor.Pv
set_option linter.unusedSimpArgs false
set_option linter.unusedVariables false
open Go.RowKit Go.Proofs.YtihggojbeohlkaaDoor.Q Go.Proofs.YtihggojbeohlkaaDoorW.PrintWords Go.Proofs.YtihggojbeohlkaaDoorW.PrintLast Go.Proofs.YtihggojbeohlkaaDoorW.PrintMore
theorem lib_join_two (sep x y : List UInt8) (xs : List (List UInt8)) : Lib.join (x :: y :: xs) sep = x ++ (sep ++ Lib.join (y :: xs) sep) := by
  simp [Lib.join, List.intercalate, List.intersperse]
theorem join_bytes (c : UInt8) : ∀ xs : List ByteArray, (Lib.join (xs.map (·.data.toList)) [c]).map (fun b => ((b.toNat : Nat) : Int)) = joinL ((c.toNat : Nat) : Int) (xs.map bytesOf)
  | [] => rfl
  | [x] => by simp [Lib.join, List.intercalate, List.intersperse, joinL, bytesOf]
  | x :: y :: xs => by
    have ih := join_bytes c (y :: xs)
    simp only [List.map_cons] at ih ⊢
    rw [lib_join_two, List.map_append, List.map_append, ih]
    rfl
theorem joinL_snoc (c : Int) (ps : List (List Int)) (q : List Int) (h : ps ≠ []) : joinL c (ps ++ [q]) = joinL c ps ++ c :: q := join_append c ps [q] h (by simp)
def lbTx (x : S41) : ByteArray × Bool := lbText x.f0 x.f1
def lbParts (xs : List S41) : List ByteArray := xs.filterMap fun x => if (lbTx x).2 = true then some (lbTx x).1 else none
def lbJoin (xs : List S41) : ByteArray := if (lbParts xs).length = 0 then ⟨#[45]⟩ else strOfNums (joinL 44 ((lbParts xs).map bytesOf))
theorem lbTx_size (x : S41) : (lbTx x).1.size ≤ 47 := by
  unfold lbTx lbText
  by_cases h : lbOk x.f0 x.f1 = true
  · rw [if_pos h]
    have hs := nameOk_size (lbOk_of h).2
    have hw := lbWord_size x.f0
    rw [size_append, colon_size]
    omega
  · rw [if_neg h]
    decide
theorem lbTx_ok {x : S41} (h : (lbTx x).2 = true) : 0 < (lbTx x).1.size := by
  unfold lbTx lbText at h ⊢
  by_cases ho : lbOk x.f0 x.f1 = true
  · rw [if_pos ho, size_append, colon_size]
    omega
  · rw [if_neg ho] at h
    cases h
theorem lbTx_no {x : S41} (h : ¬ (lbTx x).2 = true) : (lbTx x).1 = ⟨#[]⟩ := by
  unfold lbTx lbText at h ⊢
  by_cases ho : lbOk x.f0 x.f1 = true
  · rw [if_pos ho] at h
    exact absurd rfl h
  · rw [if_neg ho]
theorem parts_snoc (xs : List S41) (i : Nat) (hi : i < xs.length) : lbParts (xs.take (i + 1)) = lbParts (xs.take i) ++ (if (lbTx xs[i]).2 = true then [(lbTx xs[i]).1] else []) := by
  unfold lbParts
  rw [← List.take_append_getElem hi, List.filterMap_append]
  congr 1
  by_cases h : (lbTx xs[i]).2 = true
  · rw [if_pos h]
    simp [h]
  · rw [if_neg h]
    simp [h]
theorem parts_le (xs : List S41) : (lbParts xs).length ≤ xs.length := List.length_filterMap_le _ _
theorem joinL_pos (ps : List (List Int)) (h : ps ≠ []) (hp : ∀ p ∈ ps, 0 < p.length) : 0 < (joinL 44 ps).length := by
  match ps, h with
  | [p], _ => exact hp p (by simp)
  | p :: q :: ps, _ =>
    have := hp p (by simp)
    simp only [joinL, List.length_append, List.length_cons]
    omega
theorem parts_pos (xs : List S41) : ∀ p ∈ (lbParts xs).map bytesOf, 0 < p.length := by
  intro p hp
  obtain ⟨s, hs, rfl⟩ := List.mem_map.1 hp
  obtain ⟨x, _, hx⟩ := List.mem_filterMap.1 hs
  by_cases h : (lbTx x).2 = true
  · rw [if_pos h] at hx
    obtain rfl := Option.some.inj hx
    rw [bl_length]
    exact lbTx_ok h
  · rw [if_neg h] at hx
    cases hx
theorem spec_join_l0 (xs : List S41) (hl : xs.length ≤ 1048576) : ∀ (d i : Nat), i + d = xs.length → (joinL 44 ((lbParts (xs.take i)).map bytesOf)).length ≤ 50 * i →
    Ev (fun k => spec_LabelsText.l0 k xs (joinL 44 ((lbParts (xs.take i)).map bytesOf)) (i : Int)) (lbJoin xs) := by
  intro d
  induction d with
  | zero =>
    intro i h hz
    refine Ev.succ ?_
    simp only [spec_LabelsText.l0]
    refine Ev.neg (by omega) ?_
    rw [List.take_of_length_le (by omega)]
    unfold lbJoin
    by_cases h0 : (lbParts xs).length = 0
    · rw [if_pos h0]
      have e : lbParts xs = [] := List.length_eq_zero_iff.1 h0
      rw [e]
      exact Ev.pos (by rfl) (Ev.val rfl)
    · rw [if_neg h0]
      have := joinL_pos ((lbParts xs).map bytesOf) (by simp; exact fun e => h0 (by rw [e]; rfl)) (parts_pos xs)
      exact Ev.neg (by omega) (Ev.val rfl)
  | succ d ih =>
    intro i h hz
    have hi : i < xs.length := by omega
    have hsz := lbTx_size xs[i]
    have hsn := parts_snoc xs i hi
    refine Ev.succ ?_
    simp only [spec_LabelsText.l0]
    rw [show rd_T41 xs (i : Int) = xs[i] from getD_at _ _ _ hi, wS i (by omega)]
    refine Ev.pos (by omega) (Ev.pos (by omega) (Ev.bnd (ev_spec_LabelText _ _) ?_))
    have step : ∀ acc, acc = joinL 44 ((lbParts (xs.take (i + 1))).map bytesOf) → acc.length ≤ 50 * (i + 1) → Ev (fun k => spec_LabelsText.l0 k xs acc ((i + 1 : Nat) : Int)) (lbJoin xs) := by
      intro acc e hle
      rw [e] at hle ⊢
      exact ih (i + 1) (by omega) hle
    refine Ev.ite (fun hok => ?_) (fun hno => ?_)
    · rw [if_pos (show (lbTx xs[i]).2 = true from hok)] at hsn
      refine Ev.ite (fun hp => ?_) (fun hp => ?_)
      · refine Ev.pos (by omega) (Ev.some_bind (Ev.pos ?_ (step _ ?_ ?_)))
        · rw [List.length_append, List.length_singleton]
          show _ + (lbTx xs[i]).1.size < _
          omega
        · have hne : (lbParts (xs.take i)).map bytesOf ≠ [] := by
            intro e
            rw [e] at hp
            simp [joinL] at hp
          rw [hsn, List.map_append, List.map_cons, List.map_nil, joinL_snoc 44 _ _ hne, List.append_assoc]
          rfl
        · rw [List.length_append, List.length_append, List.length_singleton, bl_length]
          show _ + (lbTx xs[i]).1.size ≤ _
          omega
      · refine Ev.pos ?_ (step _ ?_ ?_)
        · show _ + (lbTx xs[i]).1.size < _
          omega
        · have he : lbParts (xs.take i) = [] := by
            by_cases e : lbParts (xs.take i) = []
            · exact e
            · exact absurd (joinL_pos _ (by simpa using e) (parts_pos (xs.take i))) (by omega)
          rw [hsn, he]
          rfl
        · rw [List.length_append, bl_length]
          show _ + (lbTx xs[i]).1.size ≤ _
          omega
    · rw [if_neg (show ¬ (lbTx xs[i]).2 = true from hno), List.append_nil] at hsn
      have he : (lbText xs[i].f0 xs[i].f1).1 = ⟨#[]⟩ := lbTx_no hno
      rw [he]
      refine Ev.pos ?_ (step _ ?_ ?_)
      · show _ + 0 < _
        omega
      · rw [hsn]
        exact List.append_nil _
      · show (_ ++ []).length ≤ _
        rw [List.append_nil]
        omega
theorem ev_spec_LabelsText (xs : List S41) (hl : xs.length ≤ 1048576) : Ev (fun k => spec_LabelsText.f k xs) (lbJoin xs) := by
  unfold spec_LabelsText.f
  exact spec_join_l0 xs hl xs.length 0 (by omega) (by simp [lbParts, joinL])
theorem joinL_len (ps : List (List Int)) (hp : ∀ p ∈ ps, p.length ≤ 47) : (joinL 44 ps).length ≤ 48 * ps.length := by
  induction ps with
  | nil => simp [joinL]
  | cons p ps ih =>
    have h1 := hp p (by simp)
    have h2 := ih (fun q hq => hp q (List.mem_cons_of_mem _ hq))
    cases ps with
    | nil => simp only [joinL, List.length_cons, List.length_nil]; omega
    | cons q qs =>
      simp only [joinL, List.length_append, List.length_cons] at h2 ⊢
      omega
theorem parts_small (xs : List S41) : ∀ p ∈ (lbParts xs).map bytesOf, p.length ≤ 47 := by
  intro p hp
  obtain ⟨s, hs, rfl⟩ := List.mem_map.1 hp
  obtain ⟨x, _, hx⟩ := List.mem_filterMap.1 hs
  by_cases h : (lbTx x).2 = true
  · rw [if_pos h] at hx
    obtain rfl := Option.some.inj hx
    rw [bl_length]
    exact lbTx_size x
  · rw [if_neg h] at hx
    cases hx
theorem join_eq (xs : List S41) (hl : xs.length ≤ 1048576) : strings_Join.f (lbParts xs) (⟨#[44]⟩ : ByteArray) = some (strOfNums (joinL 44 ((lbParts xs).map bytesOf))) := by
  have hb := join_bytes 44 (lbParts xs)
  have e44 : (((44 : UInt8).toNat : Nat) : Int) = 44 := rfl
  rw [e44] at hb
  have hlen := congrArg List.length hb
  rw [List.length_map] at hlen
  have h1 := joinL_len _ (parts_small xs)
  rw [List.length_map] at h1
  have h2 := parts_le xs
  have e : (⟨#[44]⟩ : ByteArray).data.toList = [44] := rfl
  unfold strings_Join.f
  rw [e, if_pos ⟨by omega, by omega⟩, ← hb]
  congr 1
  apply bl_inj
  rw [bl_nums]
  · rfl
  · intro x hx
    obtain ⟨b, _, rfl⟩ := List.mem_map.1 hx
    have := b.toNat_lt
    omega
theorem impl_join_l0 (xs : List S41) (hl : xs.length ≤ 1048576) : ∀ (d i : Nat), i + d = xs.length →
    Ev (fun k => impl_LabelsText.l0 k (lbParts (xs.take i)) xs (xs.length : Int) (i : Int)) (lbJoin xs) := by
  intro d
  induction d with
  | zero =>
    intro i h
    refine Ev.succ ?_
    simp only [impl_LabelsText.l0]
    refine Ev.neg (by omega) ?_
    rw [List.take_of_length_le (by omega), join_eq xs hl]
    unfold lbJoin
    by_cases h0 : (lbParts xs).length = 0
    · rw [if_pos h0]
      exact Ev.pos (by omega) (Ev.val rfl)
    · rw [if_neg h0]
      exact Ev.neg (by omega) (Ev.some_bind (Ev.val rfl))
  | succ d ih =>
    intro i h
    have hi : i < xs.length := by omega
    have hsn := parts_snoc xs i hi
    have hle := parts_le (xs.take i)
    rw [List.length_take] at hle
    refine Ev.succ ?_
    simp only [impl_LabelsText.l0]
    rw [show rd_T41 xs (i : Int) = xs[i] from getD_at _ _ _ hi, wS i (by omega)]
    refine Ev.pos (by omega) (Ev.pos (by omega) (Ev.pos (by omega) (Ev.bnd (ev_LabelText _ _) ?_)))
    refine Ev.ite (fun hok => Ev.pos (by omega) ?_) (fun hno => ?_)
    · rw [if_pos (show (lbTx xs[i]).2 = true from hok)] at hsn
      have := ih (i + 1) (by omega)
      rw [hsn] at this
      exact this
    · rw [if_neg (show ¬ (lbTx xs[i]).2 = true from hno), List.append_nil] at hsn
      have := ih (i + 1) (by omega)
      rw [hsn] at this
      exact this
theorem ev_LabelsText (xs : List S41) (hl : xs.length ≤ 1048576) : Ev (fun k => impl_LabelsText.f k xs) (lbJoin xs) := by
  unfold impl_LabelsText.f
  exact impl_join_l0 xs hl xs.length 0 (by omega)
end Go.Proofs.YtihggojbeohlkaaDoor.Pv
