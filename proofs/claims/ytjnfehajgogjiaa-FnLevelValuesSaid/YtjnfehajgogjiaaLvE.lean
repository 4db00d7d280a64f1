/- What the Go functions on a level's end come to, from some number of rounds on: 'scan'. No condition beyond the sizes. -/
import Derived.Test.YtjnfehajgogjiaaEv
import Derived.Test.YtjnfehajgogjiaaLv
import Derived.Test.YtjnfehajgogjiaaQ1
import Derived.Test.YtjnfehajgogjiaaQ2
import Derived.Test.YtjnfehajgogjiaaQ8
namespace Go.Proofs.Ytjnfehajgogjiaa.Pv
set_option linter.unusedSimpArgs false
set_option linter.unusedVariables false
open Go.RowKit Go.Proofs.Ytjnfehajgogjiaa.Q Go.Proofs.YtjnfehajgogjiaaW.PrintWords Go.Proofs.YtjnfehajgogjiaaW.PrintLast Go.Proofs.YtjnfehajgogjiaaW.PrintMore
def endAt (s : ByteArray) : Option (List Int) → Int
  | none => -1
  | some r => (s.size : Int) - (r.length : Int)
theorem endAt_zero (s : ByteArray) (a d : Nat) (h : a + d = s.size) : endAt s (scan ((bytesOf s).drop a) 0) = (a : Int) := by
  rw [scan_zero]
  simp only [endAt, List.length_drop, bl_length]
  omega
theorem drop_all (s : ByteArray) (a : Nat) (h : a = s.size) : (bytesOf s).drop a = [] := by
  rw [List.drop_eq_nil_iff, bl_length]
  omega
theorem spec_end (s : ByteArray) (hs : s.size ≤ 140737488351232) : ∀ (d a n : Nat), a + d = s.size → n + d ≤ s.size + 1 →
    Ev (fun k => spec_l04End.l0 k s (a : Int) (n : Int)) (endAt s (scan ((bytesOf s).drop a) n)) := by
  intro d
  induction d using Nat.strongRecOn with
  | _ d ih =>
  intro a n had hnd
  refine Ev.succ ?_
  simp only [spec_l04End.l0]
  cases n with
  | zero => exact Ev.neg (by omega) (Ev.val (endAt_zero s a d had).symm)
  | succ n =>
    refine Ev.pos (by omega) ?_
    by_cases hd : d = 0
    · refine Ev.pos (by omega) (Ev.val ?_)
      rw [drop_all s a (by omega), scan_nil]
      rfl
    have ha : a < s.size := by omega
    refine Ev.neg (by omega) (Ev.pos (by omega) (Ev.pos (by omega) ?_))
    rw [wS a (by omega), bl_drop s a ha, wP n (by omega)]
    by_cases h1 : bt s (a : Int) = 122
    · refine Ev.pos h1 ?_
      rw [h1, scan_z]
      exact ih (d - 1) (by omega) (a + 1) n (by omega) (by omega)
    refine Ev.neg h1 ?_
    by_cases h2 : bt s (a : Int) = 43
    · refine Ev.pos h2 ?_
      rw [h2, scan_s]
      exact ih (d - 1) (by omega) (a + 1) (n + 1) (by omega) (by omega)
    refine Ev.neg h2 ?_
    have mi : bt s (a : Int) = 109 ∨ bt s (a : Int) = 105 → Ev (fun k => spec_l04End.l0 k s (((a + 1 : Nat)) : Int) (wrap64 (((n + 1 : Nat) : Int) + 1))) (endAt s (scan (bt s (a : Int) :: (bytesOf s).drop (a + 1)) (n + 1))) := by
      intro h
      rw [wS (n + 1) (by omega), scan_mi _ h]
      exact ih (d - 1) (by omega) (a + 1) (n + 2) (by omega) (by omega)
    refine Ev.ite (fun h3 => Ev.succ ?_) (fun h3 => Ev.succ ?_)
    · simp only [spec_l04End.j1]
      refine Ev.pos (by simp [h3]) ?_
      rw [wS a (by omega)]
      exact mi (.inl h3)
    · simp only [spec_l04End.j1]
      by_cases h4 : bt s (a : Int) = 105
      · refine Ev.pos (by simp [h4]) ?_
        rw [wS a (by omega)]
        exact mi (.inr h4)
      refine Ev.neg (by simp [h4]) ?_
      by_cases h5 : bt s (a : Int) = 117
      · refine Ev.pos h5 ?_
        rw [wS a (by omega), h5]
        by_cases hd1 : d = 1
        · refine Ev.pos (by omega) (Ev.val ?_)
          rw [drop_all s (a + 1) (by omega), scan_u0]
          rfl
        have ha1 : a + 1 < s.size := by omega
        refine Ev.neg (by omega) (Ev.pos (by omega) (Ev.pos (by omega) ?_))
        rw [bl_drop s (a + 1) ha1, scan_u]
        by_cases h6 : bt s (((a + 1 : Nat)) : Int) < 48
        · refine Ev.pos h6 (Ev.val ?_)
          rw [if_neg (by omega)]
          rfl
        refine Ev.neg h6 ?_
        by_cases h7 : bt s (((a + 1 : Nat)) : Int) > 50
        · refine Ev.pos h7 (Ev.val ?_)
          rw [if_neg (by omega)]
          rfl
        refine Ev.neg h7 ?_
        rw [if_pos (by omega), wS (a + 1) (by omega), wP n (by omega)]
        exact ih (d - 2) (by omega) (a + 2) n (by omega) (by omega)
      · refine Ev.neg h5 (Ev.val ?_)
        rw [scan_other _ _ _ h1 h2 h3 h4 h5]
        rfl
theorem impl_end (s : ByteArray) (hs : s.size ≤ 140737488351232) : ∀ (d a n : Nat), a + d = s.size → n + d ≤ s.size + 1 →
    Ev (fun k => impl_LevelEnd.l0 k s (a : Int) (n : Int)) (endAt s (scan ((bytesOf s).drop a) n)) := by
  intro d
  induction d using Nat.strongRecOn with
  | _ d ih =>
  intro a n had hnd
  refine Ev.succ ?_
  simp only [impl_LevelEnd.l0]
  cases n with
  | zero => exact Ev.neg (by omega) (Ev.val (endAt_zero s a d had).symm)
  | succ n =>
    refine Ev.pos (by omega) ?_
    by_cases hd : d = 0
    · refine Ev.pos (by omega) (Ev.val ?_)
      rw [drop_all s a (by omega), scan_nil]
      rfl
    have ha : a < s.size := by omega
    refine Ev.neg (by omega) (Ev.pos (by omega) (Ev.pos (by omega) ?_))
    rw [wS a (by omega), bl_drop s a ha, wP n (by omega)]
    by_cases h1 : bt s (a : Int) = 122
    · refine Ev.pos h1 ?_
      rw [h1, scan_z]
      exact ih (d - 1) (by omega) (a + 1) n (by omega) (by omega)
    refine Ev.neg h1 ?_
    by_cases h2 : bt s (a : Int) = 43
    · refine Ev.pos h2 ?_
      rw [h2, scan_s]
      exact ih (d - 1) (by omega) (a + 1) (n + 1) (by omega) (by omega)
    refine Ev.neg h2 ?_
    have mi : bt s (a : Int) = 109 ∨ bt s (a : Int) = 105 → Ev (fun k => impl_LevelEnd.l0 k s (((a + 1 : Nat)) : Int) (wrap64 (((n + 1 : Nat) : Int) + 1))) (endAt s (scan (bt s (a : Int) :: (bytesOf s).drop (a + 1)) (n + 1))) := by
      intro h
      rw [wS (n + 1) (by omega), scan_mi _ h]
      exact ih (d - 1) (by omega) (a + 1) (n + 2) (by omega) (by omega)
    refine Ev.ite (fun h3 => Ev.succ ?_) (fun h3 => Ev.succ ?_)
    · simp only [impl_LevelEnd.j2]
      refine Ev.pos (by simp [h3]) ?_
      rw [wS a (by omega)]
      exact mi (.inl h3)
    · simp only [impl_LevelEnd.j2]
      by_cases h4 : bt s (a : Int) = 105
      · refine Ev.pos (by simp [h4]) ?_
        rw [wS a (by omega)]
        exact mi (.inr h4)
      refine Ev.neg (by simp [h4]) ?_
      by_cases h5 : bt s (a : Int) = 117
      · refine Ev.pos h5 ?_
        rw [wS a (by omega), h5]
        by_cases hd1 : d = 1
        · refine Ev.pos (by omega) (Ev.val ?_)
          rw [drop_all s (a + 1) (by omega), scan_u0]
          rfl
        have ha1 : a + 1 < s.size := by omega
        refine Ev.neg (by omega) (Ev.pos (by omega) (Ev.pos (by omega) ?_))
        rw [bl_drop s (a + 1) ha1, scan_u]
        by_cases h6 : bt s (((a + 1 : Nat)) : Int) < 48
        · refine Ev.pos h6 (Ev.val ?_)
          rw [if_neg (by omega)]
          rfl
        refine Ev.neg h6 ?_
        by_cases h7 : bt s (((a + 1 : Nat)) : Int) > 50
        · refine Ev.pos h7 (Ev.val ?_)
          rw [if_neg (by omega)]
          rfl
        refine Ev.neg h7 ?_
        rw [if_pos (by omega), wS (a + 1) (by omega), wP n (by omega)]
        exact ih (d - 2) (by omega) (a + 2) n (by omega) (by omega)
      · refine Ev.neg h5 (Ev.val ?_)
        rw [scan_other _ _ _ h1 h2 h3 h4 h5]
        rfl
theorem ev_l04End (s : ByteArray) (hs : s.size ≤ 140737488351232) (a : Nat) (h : a ≤ s.size) : Ev (fun k => spec_l04End.f k s (a : Int)) (endAt s (scan ((bytesOf s).drop a) 1)) :=
  spec_end s hs (s.size - a) a 1 (by omega) (by omega)
theorem endAt_ok (s : ByteArray) (h : s.size ≤ 60) : (endAt s (scan ((bytesOf s).drop 0) 1) == (s.size : Int)) = lvOk (bytesOf s) := by
  unfold lvOk
  rw [bl_length, List.drop_zero]
  cases e : scan (bytesOf s) 1 with
  | none =>
    simp only [endAt]
    rw [beq_eq_false_iff_ne.2 (by omega)]
    simp
  | some r =>
    simp only [endAt]
    rw [Bool.eq_iff_iff, beq_iff_eq, decide_eq_true_iff]
    constructor
    · intro h2
      refine ⟨h, ?_⟩
      rw [List.length_eq_zero_iff.1 (show r.length = 0 by omega)]
    · rintro ⟨_, h2⟩
      obtain rfl := Option.some.inj h2
      simp
theorem lvOk_long (s : ByteArray) (h : ¬ (s.size : Int) ≤ 60) : false = lvOk (bytesOf s) := by
  symm
  unfold lvOk
  rw [bl_length]
  exact decide_eq_false (by omega)
theorem ev_spec_LevelOk (s : ByteArray) (hs : s.size ≤ 140737488351232) : Ev (fun k => spec_LevelOk.f k s) (lvOk (bytesOf s)) := by
  unfold spec_LevelOk.f
  refine Ev.ite (fun h => ?_) (fun h => Ev.val (lvOk_long s h))
  refine Ev.bnd (ev_l04End s hs 0 (by omega)) (Ev.val ?_)
  exact endAt_ok s (by omega)
theorem ev_LevelEnd (s : ByteArray) (hs : s.size ≤ 10000) (a : Nat) (h : a ≤ s.size) : Ev (fun k => impl_LevelEnd.f k s (a : Int)) (endAt s (scan ((bytesOf s).drop a) 1)) := by
  unfold impl_LevelEnd.f
  refine Ev.neg (by omega) ?_
  unfold impl_in.f
  rw [if_pos (by omega)]
  refine Ev.some_bind (Ev.succ ?_)
  simp only [impl_LevelEnd.j0]
  refine Ev.neg (by simp; omega) ?_
  exact impl_end s (by omega) (s.size - a) a 1 (by omega) (by omega)
theorem ev_LevelOk (s : ByteArray) : Ev (fun k => impl_LevelOk.f k s) (lvOk (bytesOf s)) := by
  unfold impl_LevelOk.f
  refine Ev.ite (fun h => ?_) (fun h => Ev.val (lvOk_long s h))
  refine Ev.bnd (ev_LevelEnd s (by omega) 0 (by omega)) (Ev.val ?_)
  exact endAt_ok s (by omega)
end Go.Proofs.Ytjnfehajgogjiaa.Pv
