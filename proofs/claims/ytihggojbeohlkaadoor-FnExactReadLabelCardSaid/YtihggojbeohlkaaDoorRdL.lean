/- What ReadLabel comes to, of the program and of the reference. No condition beyond the sizes. -/
import Derived.Test.YtihggojbeohlkaaDoorLbT
import Derived.Test.YtihggojbeohlkaaDoorLbQ
import Derived.Test.YtihggojbeohlkaaDoorQ22
import Derived.Test.YtihggojbeohlkaaDoorQ23
import Derived.Test.YtihggojbeohlkaaDoorQ3
namespace Go.Proofs.YtihggojbeohlkaaDoor.Pv
set_option linter.unusedSimpArgs false
set_option linter.unusedVariables false
open Go.RowKit Go.Proofs.YtihggojbeohlkaaDoor.Q Go.Proofs.YtihggojbeohlkaaDoorW.PrintWords Go.Proofs.YtihggojbeohlkaaDoorW.PrintLast Go.Proofs.YtihggojbeohlkaaDoorW.PrintMore
theorem mem_joinL (c x : Int) : ∀ ps : List (List Int), x ∈ joinL c ps → x = c ∨ ∃ p ∈ ps, x ∈ p
  | [], h => by simp [joinL] at h
  | [p], h => .inr ⟨p, by simp, by simpa [joinL] using h⟩
  | p :: q :: ps, h => by
    simp only [joinL, List.mem_append, List.mem_cons] at h
    rcases h with h | h | h
    · exact .inr ⟨p, by simp, h⟩
    · exact .inl h
    · rcases mem_joinL c x (q :: ps) h with h | ⟨r, hr, h⟩
      · exact .inl h
      · exact .inr ⟨r, List.mem_cons_of_mem _ hr, h⟩
theorem partOk_mem {p : List Int} (h : partOk p = true) : ∀ x ∈ p, (97 ≤ x ∧ x ≤ 122) ∨ (48 ≤ x ∧ x ≤ 57) := by
  intro x hx
  rw [← low_dig_ok]
  cases p with
  | nil => cases hx
  | cons y p =>
    unfold partOk at h
    simp only [Bool.and_eq_true, List.all_eq_true] at h
    exact h.2 x hx
theorem nameOk_free {l : List Int} (h : nameOk l = true) : (58 : Int) ∉ l := by
  intro hx
  unfold nameOk at h
  simp only [Bool.and_eq_true, List.all_eq_true] at h
  rw [← join_cut 46 l] at hx
  rcases mem_joinL 46 58 _ hx with e | ⟨p, hp, hm⟩
  · omega
  · have := partOk_mem (h.2.2 p hp) 58 hm
    omega
theorem spec_read_none (xs : List ByteArray) (h : ((xs.length : Int) == 2) = false) : Ev (fun k => spec_ReadLabel.l0 k xs 1) (0, (⟨#[]⟩ : ByteArray), false) := by
  refine Ev.succ ?_
  simp only [spec_ReadLabel.l0]
  rw [h]
  refine Ev.pos (by omega) (Ev.succ ?_)
  simp only [spec_ReadLabel.j1]
  exact Ev.neg (by simp) (Ev.val rfl)
theorem spec_read_two (b a : ByteArray) (q : Int) (hq : 0 ≤ q ∧ q ≤ 5) (hp : ∀ j : Int, 1 ≤ j → j ≤ 5 → (b = lbWord j ↔ q = j)) : Ev (fun k => spec_ReadLabel.l0 k [b, a] 1) (if lbOk q a = true then (q, a, true) else (0, (⟨#[]⟩ : ByteArray), false)) := by
  have key : ∀ (d i : Nat), i + d = 6 → 1 ≤ i → Ev (fun k => spec_ReadLabel.l0 k [b, a] (i : Int)) (if (i : Int) ≤ q ∧ lbOk q a = true then (q, a, true) else (0, (⟨#[]⟩ : ByteArray), false)) := by
    intro d
    induction d with
    | zero =>
      intro i h _
      rw [if_neg (by omega)]
      refine Ev.succ ?_
      simp only [spec_ReadLabel.l0]
      refine Ev.neg (by omega) (Ev.succ ?_)
      simp only [spec_ReadLabel.j1]
      exact Ev.neg (by simp) (Ev.val rfl)
    | succ d ih =>
      intro i h h1
      refine Ev.succ ?_
      simp only [spec_ReadLabel.l0]
      refine Ev.pos (by omega) (Ev.succ ?_)
      simp only [spec_ReadLabel.j1]
      rw [l03Word_eq, wS i (by omega)]
      have r0 : rdOf ByteArray.empty [b, a] 0 = b := rfl
      have r1 : rdOf ByteArray.empty [b, a] 1 = a := rfl
      rw [r0, r1]
      refine Ev.pos rfl (Ev.pos (by simp) (Ev.pos (by simp) (Ev.some_bind ?_)))
      have hnext := ih (i + 1) (by omega) (by omega)
      by_cases e : b.toList = (lbWord i).toList
      · have hqi : q = i := (hp i (by omega) (by omega)).1 (toList_inj.1 e)
        refine Ev.pos e (Ev.bnd (ev_spec_LabelOk _ _) (Ev.ite (fun ho => Ev.val ?_) (fun ho => ?_)))
        · rw [hqi, if_pos ⟨Int.le_refl _, ho⟩]
        · refine Ev.cast hnext ?_
          rw [hqi, if_neg (by omega), if_neg (fun z => ho z.2)]
      · refine Ev.neg e (Ev.cast hnext ?_)
        have hqi : q ≠ i := fun z => e (by rw [← (hp i (by omega) (by omega)).2 z])
        by_cases hc : ((i + 1 : Nat) : Int) ≤ q ∧ lbOk q a = true
        · rw [if_pos hc, if_pos ⟨by omega, hc.2⟩]
        · rw [if_neg hc, if_neg (fun z => hc ⟨by omega, z.2⟩)]
  refine Ev.cast (key 5 1 (by omega) (by omega)) ?_
  by_cases ho : lbOk q a = true
  · have := (lbOk_of ho).1
    rw [if_pos ho, if_pos ⟨by omega, ho⟩]
  · rw [if_neg ho, if_neg (fun z => ho z.2)]
theorem ev_ReadLabel (s : ByteArray) (hs : s.size ≤ 1048576) : ∃ r, Ev (fun k => impl_ReadLabel.f k s) r ∧ Ev (fun k => spec_ReadLabel.f k s) r := by
  obtain ⟨xs, hcut, hm⟩ := ev_Cut s hs 58
  have idx : stringslite_Index.f s (⟨#[58]⟩ : ByteArray) = some (Lib.indexByte s.data.toList 58) := rfl
  have e58 : (((58 : UInt8).toNat : Nat) : Int) = 58 := rfl
  rcases idx_bytes s 58 with ⟨h1, h2⟩ | ⟨m, h1, h2, h3, h4⟩
  · rw [e58] at h2
    refine ⟨(0, (⟨#[]⟩ : ByteArray), false), ?_, ?_⟩
    · unfold impl_ReadLabel.f strings_Cut.f stringslite_Cut.f
      rw [idx, h1]
      obtain ⟨q, _, _, hk⟩ := ev_labelKind s
      refine Ev.bnd (a := (s, (⟨#[]⟩ : ByteArray), false)) (Ev.bnd (a := (s, (⟨#[]⟩ : ByteArray), false)) (Ev.some_bind (Ev.neg (by omega) (Ev.val rfl))) (Ev.val rfl)) (Ev.bnd hk (Ev.neg (by simp) (Ev.val rfl)))
    · unfold spec_ReadLabel.f
      refine Ev.ite (fun _ => Ev.val rfl) (fun _ => Ev.bnd hcut (spec_read_none xs ?_))
      rw [cutL_none 58 _ h2] at hm
      have : xs.length = 1 := by rw [← List.length_map (f := bytesOf), hm]; rfl
      rw [this]
      rfl
  · rw [e58] at h3 h4
    obtain ⟨b, hb⟩ : ∃ b : ByteArray, b = s.extract 0 m := ⟨_, rfl⟩
    obtain ⟨a, ha⟩ : ∃ a : ByteArray, a = s.extract (m + 1) s.size := ⟨_, rfl⟩
    have hbb : bytesOf b = (bytesOf s).take m := by rw [hb, bl_extract, List.drop_zero, Nat.sub_zero]
    have hab : bytesOf a = (bytesOf s).drop (m + 1) := by rw [ha, bl_extract, List.take_of_length_le (by rw [List.length_drop, bl_length]; omega)]
    obtain ⟨q, hq, hp, hk⟩ := ev_labelKind b
    have hcuts : cutL 58 (bytesOf s) = bytesOf b :: cutL 58 (bytesOf a) := by
      conv => lhs; rw [h3, cutL_first 58 _ _ h4]
      rw [hbb, hab]
    have himpl : Ev (fun k => impl_ReadLabel.f k s) (if lbOk q a = true then (q, a, true) else (0, (⟨#[]⟩ : ByteArray), false)) := by
      unfold impl_ReadLabel.f strings_Cut.f stringslite_Cut.f
      rw [idx, h1]
      have w1 : wrap64 ((m : Int) + ((⟨#[58]⟩ : ByteArray).size : Int)) = ((m + 1 : Nat) : Int) := wS m (by omega)
      refine Ev.bnd (a := (b, a, true)) (Ev.bnd (a := (b, a, true)) (Ev.some_bind ?_) (Ev.val rfl)) (Ev.bnd hk (Ev.pos rfl (Ev.bnd (ev_LabelOk q a) (Ev.ite (fun ho => Ev.val ?_) (fun ho => Ev.val ?_)))))
      · rw [w1]
        refine Ev.pos (by omega) (Ev.pos (by omega) (Ev.pos (by omega) (Ev.pos (by omega) (Ev.pos (by omega) (Ev.val ?_)))))
        rw [Int.toNat_natCast, Int.toNat_natCast, hb, ha]
      · rw [if_pos ho]
      · rw [if_neg ho]
    refine ⟨_, himpl, ?_⟩
    have hno : ∀ hn : ¬ lbOk q a = true, (if lbOk q a = true then (q, a, true) else (0, (⟨#[]⟩ : ByteArray), false)) = (0, (⟨#[]⟩ : ByteArray), false) := fun hn => if_neg hn
    unfold spec_ReadLabel.f
    refine Ev.ite (fun hbig => Ev.val ?_) (fun hsm => Ev.bnd hcut ?_)
    · rw [hno]
      intro ho
      have o1 := lbOk_of ho
      have o2 := nameOk_size o1.2
      have hlb : b = lbWord q := (hp q o1.1.1 o1.1.2).2 rfl
      have hw := lbWord_size q
      rw [← hlb, ← bl_length, hbb, List.length_take, bl_length] at hw
      rw [← bl_length, hab, List.length_drop, bl_length] at o2
      omega
    · by_cases hcol : (58 : Int) ∈ bytesOf a
      · rw [hno (fun ho => nameOk_free (lbOk_of ho).2 hcol)]
        refine spec_read_none xs ?_
        have hl := cutL_length 58 (bytesOf a)
        have hc : 0 < (bytesOf a).count 58 := List.count_pos_iff.2 hcol
        have : xs.length = (cutL 58 (bytesOf a)).length + 1 := by rw [← List.length_map (f := bytesOf), hm, hcuts, List.length_cons]
        rw [beq_eq_false_iff_ne]
        omega
      · have hx : xs = [b, a] := by
          apply map_bl_inj
          rw [hm, hcuts, cutL_none 58 _ hcol]
          rfl
        rw [hx]
        exact spec_read_two b a q hq hp
end Go.Proofs.YtihggojbeohlkaaDoor.Pv
