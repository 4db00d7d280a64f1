/- Printed for this claim by a program of this session (wip/tools/xprint.py) out of the translation: what each Go function comes to, and that it comes to it. Not trusted: Lean checks it. -/
import Derived.Test.YtjnfehajgogjiaaQ0
namespace Go.Proofs.Ytjnfehajgogjiaa.Q
open Go.RowKit Go.Proofs.YtjnfehajgogjiaaW.PrintWords Go.Proofs.YtjnfehajgogjiaaW.PrintLast Go.Proofs.YtjnfehajgogjiaaW.PrintMore
attribute [local go_sem] max2_int min2_int max_two min_two max_three min_three max_four min_four   -- for this text's walks alone
set_option linter.unusedVariables false
set_option linter.unusedSimpArgs false

/-! ### impl_in: function 54 -/
def impl_in.f (a0 : Int) (a1 : Int) (a2 : Int) : Option (Bool) := if a1 ≤ a0 then (some (decide (a0 ≤ a2))) else (some false)
set_option maxHeartbeats 8000000 in
set_option maxRecDepth 100000 in
theorem impl_in.calls (a0 : Int) (a1 : Int) (a2 : Int) (r : Bool) (w : World) (h : impl_in.f a0 a1 a2 = some r) :
    Calls Try.prog 54 #[.int .i64 a0, .int .i64 a1, .int .i64 a2] w fun e w' => e = .returned (.bool r) ∧ Drawn0 w w' := by
  have H : (if a1 ≤ a0 then (some (decide (a0 ≤ a2))) else (some false)) = some r := h
  clear h
  by_cases c4 : a1 ≤ a0
  · rw [if_pos c4] at H
    have c4b0 : decide (a1 ≤ a0) = true := decide_eq_true c4
    clear c4
    obtain rfl := Option.some.inj H
    go_enter Try.func54, Try.ntmps54
    go_wp2
    go_ret
    exact ⟨by first | rfl | (simp; done) | (simp [*]; done), by repeat (first | exact Drawn0.refl _ | apply Drawn0.step)⟩
  · rw [if_neg c4] at H
    have c4b0 : decide (a1 ≤ a0) = false := decide_eq_false c4
    clear c4
    obtain rfl := Option.some.inj H
    go_enter Try.func54, Try.ntmps54
    go_wp2
    go_ret
    exact ⟨by first | rfl | (simp; done) | (simp [*]; done), by repeat (first | exact Drawn0.refl _ | apply Drawn0.step)⟩

/-! ### impl_LevelEnd: function 43 -/
mutual
def impl_LevelEnd.j0 : Nat → ByteArray → Int → Bool → Option (Int)
  | 0, _, _, _ => none
  | k + 1, x0, x1, x15 => if x15 = true then (some (-1)) else (impl_LevelEnd.l0 k x0 x1 1)
def impl_LevelEnd.l0 : Nat → ByteArray → Int → Int → Option (Int)
  | 0, _, _, _ => none
  | k + 1, x0, x1, x5 => if x5 > 0 then (if x1 = (x0.size : Int) then (some (-1)) else (if 0 ≤ x1 then (if x1 < (x0.size : Int) then (if (bt x0 x1) = 122 then (impl_LevelEnd.l0 k x0 (wrap64 (x1 + 1)) (wrap64 (x5 - 1))) else (if (bt x0 x1) = 43 then (impl_LevelEnd.l0 k x0 (wrap64 (x1 + 1)) x5) else (if (bt x0 x1) = 109 then (impl_LevelEnd.j2 k x0 x1 x5 (bt x0 x1) ((bt x0 x1) == 109)) else (impl_LevelEnd.j2 k x0 x1 x5 (bt x0 x1) ((bt x0 x1) == 105))))) else (none)) else (none))) else (some x1)
def impl_LevelEnd.j2 : Nat → ByteArray → Int → Int → Int → Bool → Option (Int)
  | 0, _, _, _, _, _ => none
  | k + 1, x0, x1, x5, x26, x33 => if x33 = true then (impl_LevelEnd.l0 k x0 (wrap64 (x1 + 1)) (wrap64 (x5 + 1))) else (if x26 = 117 then (if (wrap64 (x1 + 1)) = (x0.size : Int) then (some (-1)) else (if 0 ≤ (wrap64 (x1 + 1)) then (if (wrap64 (x1 + 1)) < (x0.size : Int) then (if (bt x0 (wrap64 (x1 + 1))) < 48 then (some (-1)) else (if (bt x0 (wrap64 (x1 + 1))) > 50 then (some (-1)) else (impl_LevelEnd.l0 k x0 (wrap64 ((wrap64 (x1 + 1)) + 1)) (wrap64 (x5 - 1))))) else (none)) else (none))) else (some (-1)))
end
def impl_LevelEnd.f (k : Nat) (a0 : ByteArray) (a1 : Int) : Option (Int) := if (a0.size : Int) > 10000 then (impl_LevelEnd.j0 k a0 a1 true) else ((impl_in.f a1 0 (a0.size : Int)).bind fun t101 => (impl_LevelEnd.j0 k a0 a1 (!t101)))
theorem impl_LevelEnd.mono_l : ∀ k, (∀ y0 y1 y2, LeO (impl_LevelEnd.j0 k y0 y1 y2) (impl_LevelEnd.j0 (k + 1) y0 y1 y2)) ∧ (∀ y0 y1 y2, LeO (impl_LevelEnd.l0 k y0 y1 y2) (impl_LevelEnd.l0 (k + 1) y0 y1 y2)) ∧ (∀ y0 y1 y2 y3 y4, LeO (impl_LevelEnd.j2 k y0 y1 y2 y3 y4) (impl_LevelEnd.j2 (k + 1) y0 y1 y2 y3 y4))
  | 0 => ⟨fun _ _ _ r h => by simp [impl_LevelEnd.j0] at h, fun _ _ _ r h => by simp [impl_LevelEnd.l0] at h, fun _ _ _ _ _ r h => by simp [impl_LevelEnd.j2] at h⟩
  | k + 1 => by
    obtain ⟨ih0, ih1, ih2⟩ := impl_LevelEnd.mono_l k
    refine ⟨?_, ?_, ?_⟩
    · intro y0 y1 y2
      unfold impl_LevelEnd.j0
      repeat' first
      | (with_reducible exact ih0 _ _ _)
      | (with_reducible exact ih1 _ _ _)
      | (with_reducible exact ih2 _ _ _ _ _)
      | (with_reducible exact LeO.refl _)
      | (with_reducible exact LeO.none _)
      | (with_reducible refine LeO.ite ?_ ?_)
      | (with_reducible refine LeO.bind ?_ (fun _ => ?_))
      | exact ih0 _ _ _
      | exact ih1 _ _ _
      | exact ih2 _ _ _ _ _
      | exact LeO.none _
      | refine LeO.ite ?_ ?_
      | refine LeO.bind ?_ (fun _ => ?_)
    · intro y0 y1 y2
      unfold impl_LevelEnd.l0
      repeat' first
      | (with_reducible exact ih0 _ _ _)
      | (with_reducible exact ih1 _ _ _)
      | (with_reducible exact ih2 _ _ _ _ _)
      | (with_reducible exact LeO.refl _)
      | (with_reducible exact LeO.none _)
      | (with_reducible refine LeO.ite ?_ ?_)
      | (with_reducible refine LeO.bind ?_ (fun _ => ?_))
      | exact ih0 _ _ _
      | exact ih1 _ _ _
      | exact ih2 _ _ _ _ _
      | exact LeO.none _
      | refine LeO.ite ?_ ?_
      | refine LeO.bind ?_ (fun _ => ?_)
    · intro y0 y1 y2 y3 y4
      unfold impl_LevelEnd.j2
      repeat' first
      | (with_reducible exact ih0 _ _ _)
      | (with_reducible exact ih1 _ _ _)
      | (with_reducible exact ih2 _ _ _ _ _)
      | (with_reducible exact LeO.refl _)
      | (with_reducible exact LeO.none _)
      | (with_reducible refine LeO.ite ?_ ?_)
      | (with_reducible refine LeO.bind ?_ (fun _ => ?_))
      | exact ih0 _ _ _
      | exact ih1 _ _ _
      | exact ih2 _ _ _ _ _
      | exact LeO.none _
      | refine LeO.ite ?_ ?_
      | refine LeO.bind ?_ (fun _ => ?_)
theorem impl_LevelEnd.mono : ∀ a0 a1 k, LeO (impl_LevelEnd.f k a0 a1) (impl_LevelEnd.f (k + 1) a0 a1) := by
  intro a0 a1 k
  obtain ⟨ih0, ih1, ih2⟩ := impl_LevelEnd.mono_l k
  unfold impl_LevelEnd.f
  repeat' first
      | (with_reducible exact ih0 _ _ _)
      | (with_reducible exact ih1 _ _ _)
      | (with_reducible exact ih2 _ _ _ _ _)
      | (with_reducible exact LeO.refl _)
      | (with_reducible exact LeO.none _)
      | (with_reducible refine LeO.ite ?_ ?_)
      | (with_reducible refine LeO.bind ?_ (fun _ => ?_))
      | exact ih0 _ _ _
      | exact ih1 _ _ _
      | exact ih2 _ _ _ _ _
      | exact LeO.none _
      | refine LeO.ite ?_ ?_
      | refine LeO.bind ?_ (fun _ => ?_)
set_option maxHeartbeats 8000000 in
set_option maxRecDepth 100000 in
theorem impl_LevelEnd.calls (k : Nat) (a0 : ByteArray) (a1 : Int) (r : Int) (w : World) (h : impl_LevelEnd.f k a0 a1 = some r) :
    Calls Try.prog 43 #[.string a0, .int .i64 a1] w fun e w' => e = .returned (.int .i64 r) ∧ Drawn0 w w' := by
  have H : (if (a0.size : Int) > 10000 then (impl_LevelEnd.j0 k a0 a1 true) else ((impl_in.f a1 0 (a0.size : Int)).bind fun t101 => (impl_LevelEnd.j0 k a0 a1 (!t101)))) = some r := h
  clear h
  have HC3 := Aside0.mk H
  clear H
  go_enter Try.func43, Try.ntmps43
  go_upto_region 1 with (fail)
  go_cut [15] (fun v15 wc => ∃ (kq : Nat) (x15_2 : Bool), v15 = .bool x15_2 ∧ Aside0 (impl_LevelEnd.j0 kq a0 a1 x15_2 = some r) ∧ Aside0 (kq ≤ k) ∧ Drawn0 w wc)
  case first =>
    have H := HC3.out
    clear HC3
    by_cases c4 : (a0.size : Int) > 10000
    · rw [if_pos c4] at H
      have c4b0 : decide (10000 < (a0.size : Int)) = true := decide_eq_true c4
      have c4b1 : decide (10000 < a0.size) = true := decide_eq_true (by omega)
      clear c4
      (first | rw [c4b0] | (simp only [i64_w, i32_w]; rw [c4b0]) | skip)
      have H' := Aside0.mk H
      clear H
      go_wp2
      go_meet
      case rel => exact ⟨_, (true), (by first | rfl | (simp; done) | (simp [*]; done)), H', ⟨by first | omega | exact Nat.le_refl _⟩, by repeat (first | exact Drawn0.refl _ | apply Drawn0.step)⟩
    · rw [if_neg c4] at H
      have c4b0 : decide (10000 < (a0.size : Int)) = false := decide_eq_false c4
      have c4b1 : decide (10000 < a0.size) = false := decide_eq_false (by omega)
      clear c4
      (first | rw [c4b0] | (simp only [i64_w, i32_w]; rw [c4b0]) | skip)
      replace H := Option.bind_eq_some_iff.mp H
      obtain ⟨t101, A50, H⟩ := H
      replace H : (impl_LevelEnd.j0 k a0 a1 (!t101)) = some r := H
      have A5 := Aside0.mk A50
      clear A50
      have H' := Aside0.mk H
      clear H
      go_wp2_with (first | (go_at_call 54; (with_reducible refine (impl_in.calls a1 0 (a0.size : Int) t101 _ A5.out).mono ?_); rintro e w' ⟨rfl, ⟨nd, rfl⟩⟩))
      go_meet
      case rel => exact ⟨_, (!t101), (by first | rfl | (simp; done) | (simp [*]; done)), H', ⟨by first | omega | exact Nat.le_refl _⟩, by repeat (first | exact Drawn0.refl _ | apply Drawn0.step)⟩
  case rest =>
    clear HC3
    try clear p2
    try clear c4
    try clear c4b0
    try clear c4b1
    obtain ⟨kq, x15_2, rfl, HA, HJ2, ⟨mc2, rfl⟩⟩ := hcut
    cases kq with
    | zero => exact absurd HA.out (by simp [impl_LevelEnd.j0])
    | succ kj2 =>
      have H := HA.out
      clear HA
      simp only [impl_LevelEnd.j0] at H
      by_cases c6 : x15_2 = true
      · subst c6
        have H1 : (some (-1)) = some r := by rw [if_pos rfl] at H; exact H
        clear H
        have H := H1
        clear H1
        obtain rfl := Option.some.inj H
        go_wp2
        go_ret
        exact ⟨by first | rfl | (simp; done) | (simp [*]; done), by repeat (first | exact Drawn0.refl _ | apply Drawn0.step)⟩
      · replace c6 := Bool.eq_false_iff.mpr c6
        subst c6
        have H1 : (impl_LevelEnd.l0 kj2 a0 a1 1) = some r := by rw [if_neg (show ¬ (false = true) by decide)] at H; exact H
        clear H
        have H := H1
        clear H1
        have H' := Aside0.mk H
        clear H
        go_wp2
        go_loopg [1, 5] kj2 (fun kq v1 v5 w' => ∃ (x1_2 : Int) (x5_2 : Int), v1 = .int .i64 x1_2 ∧ v5 = .int .i64 x5_2 ∧ Aside0 (impl_LevelEnd.l0 kq a0 x1_2 x5_2 = some r) ∧ Aside0 (kq ≤ kj2) ∧ Drawn0 w w')
        case atStart => exact ⟨(a1), (1), (by first | rfl | (simp; done) | (simp [*]; done)), (by first | rfl | (simp; done) | (simp [*]; done)), H', ⟨Nat.le_refl _⟩, by repeat (first | exact Drawn0.refl _ | apply Drawn0.step)⟩
        case round =>
          clear H'
          try clear c2
          try clear p2
          try clear c4
          try clear c4b0
          try clear c4b1
          try clear c6
          try clear p2
          obtain ⟨x1_2, x5_2, rfl, rfl, HA, HK2, ⟨m2, rfl⟩⟩ := hrel
          cases gk with
          | zero => exact absurd HA.out (by simp [impl_LevelEnd.l0])
          | succ k2 =>
            have H := HA.out
            clear HA
            simp only [impl_LevelEnd.l0] at H
            by_cases c7 : x5_2 > 0
            · rw [if_pos c7] at H
              have c7b0 : decide (0 < x5_2) = true := decide_eq_true c7
              clear c7
              by_cases c8 : x1_2 = (a0.size : Int)
              · rw [if_pos c8] at H
                have c8b0 : (x1_2 == (a0.size : Int)) = true := beq_iff_eq.mpr c8
                have c8b1 : (x1_2 != (a0.size : Int)) = false := bne_eq_false_iff_eq.mpr c8
                clear c8
                obtain rfl := Option.some.inj H
                go_wp2
                go_ret
                exact ⟨by first | rfl | (simp; done) | (simp [*]; done), by repeat (first | exact Drawn0.refl _ | apply Drawn0.step)⟩
              · rw [if_neg c8] at H
                have c8b0 : (x1_2 == (a0.size : Int)) = false := beq_eq_false_iff_ne.mpr c8
                have c8b1 : (x1_2 != (a0.size : Int)) = true := bne_iff_ne.mpr c8
                by_cases c9 : 0 ≤ x1_2
                · rw [if_pos c9] at H
                  have c9b0 : decide (0 ≤ x1_2) = true := decide_eq_true c9
                  clear c9
                  by_cases c10 : x1_2 < (a0.size : Int)
                  · rw [if_pos c10] at H
                    have c10b0 : decide (x1_2 < (a0.size : Int)) = true := decide_eq_true c10
                    clear c10
                    by_cases c12 : (bt a0 x1_2) = 122
                    · rw [if_pos c12] at H
                      have c12b0 : ((bt a0 x1_2) == 122) = true := beq_iff_eq.mpr c12
                      have c12b1 : ((bt a0 x1_2) != 122) = false := bne_eq_false_iff_eq.mpr c12
                      clear c12
                      have H' := Aside0.mk H
                      clear H
                      have p11 : 0 ≤ (x1_2 : Int) := of_decide_eq_true (by first | (with_reducible assumption) | assumption)
                      have q11 : x1_2 < (a0.size : Int) := of_decide_eq_true (by first | (with_reducible assumption) | assumption)
                      have hx11 := bt_at a0 x1_2
                      replace p11 := eq_true p11
                      replace q11 := eq_true q11
                      go_wp2
                      go_roundg k2
                      case measure => have := HJ2.out; have := HK2.out; omega
                      case rel => exact ⟨(wrap64 (x1_2 + 1)), (wrap64 (x5_2 - 1)), (by first | rfl | (simp; done) | (simp [*]; done)), (by first | rfl | (simp; done) | (simp [*]; done)), H', ⟨by have := HJ2.out; have := HK2.out; omega⟩, by repeat (first | exact Drawn0.refl _ | apply Drawn0.step)⟩
                    · rw [if_neg c12] at H
                      have c12b0 : ((bt a0 x1_2) == 122) = false := beq_eq_false_iff_ne.mpr c12
                      have c12b1 : ((bt a0 x1_2) != 122) = true := bne_iff_ne.mpr c12
                      by_cases c13 : (bt a0 x1_2) = 43
                      · rw [if_pos c13] at H
                        have c13b0 : ((bt a0 x1_2) == 43) = true := beq_iff_eq.mpr c13
                        have c13b1 : ((bt a0 x1_2) != 43) = false := bne_eq_false_iff_eq.mpr c13
                        clear c13
                        have H' := Aside0.mk H
                        clear H
                        have p11 : 0 ≤ (x1_2 : Int) := of_decide_eq_true (by first | (with_reducible assumption) | assumption)
                        have q11 : x1_2 < (a0.size : Int) := of_decide_eq_true (by first | (with_reducible assumption) | assumption)
                        have hx11 := bt_at a0 x1_2
                        replace p11 := eq_true p11
                        replace q11 := eq_true q11
                        go_wp2
                        go_roundg k2
                        case measure => have := HJ2.out; have := HK2.out; omega
                        case rel => exact ⟨(wrap64 (x1_2 + 1)), (x5_2), (by first | rfl | (simp; done) | (simp [*]; done)), (by first | rfl | (simp; done) | (simp [*]; done)), H', ⟨by have := HJ2.out; have := HK2.out; omega⟩, by repeat (first | exact Drawn0.refl _ | apply Drawn0.step)⟩
                      · rw [if_neg c13] at H
                        have c13b0 : ((bt a0 x1_2) == 43) = false := beq_eq_false_iff_ne.mpr c13
                        have c13b1 : ((bt a0 x1_2) != 43) = true := bne_iff_ne.mpr c13
                        have HC14 := Aside0.mk H
                        clear H
                        have p11 : 0 ≤ (x1_2 : Int) := of_decide_eq_true (by first | (with_reducible assumption) | assumption)
                        have q11 : x1_2 < (a0.size : Int) := of_decide_eq_true (by first | (with_reducible assumption) | assumption)
                        have hx11 := bt_at a0 x1_2
                        replace p11 := eq_true p11
                        replace q11 := eq_true q11
                        go_upto_if 33 with (fail)
                        go_cut [33] (fun v33 wc => ∃ (kq : Nat) (x33_13 : Bool), v33 = .bool x33_13 ∧ Aside0 (impl_LevelEnd.j2 kq a0 x1_2 x5_2 (bt a0 x1_2) x33_13 = some r) ∧ Aside0 (kq ≤ k2) ∧ Drawn0 w wc)
                        case first =>
                          have H := HC14.out
                          clear HC14
                          by_cases c15 : (bt a0 x1_2) = 109
                          · rw [if_pos c15] at H
                            have c15b0 : ((bt a0 x1_2) == 109) = true := beq_iff_eq.mpr c15
                            have c15b1 : ((bt a0 x1_2) != 109) = false := bne_eq_false_iff_eq.mpr c15
                            clear c15
                            (first | rw [c15b0] | (simp only [i64_w, i32_w]; rw [c15b0]) | skip)
                            have H' := Aside0.mk H
                            clear H
                            go_wp2
                            go_meet
                            case rel => exact ⟨_, (((bt a0 x1_2) == 109)), (by first | rfl | (simp; done) | (simp [*]; done)), H', ⟨by have := HJ2.out; have := HK2.out; first | omega | exact Nat.le_refl _⟩, by repeat (first | exact Drawn0.refl _ | apply Drawn0.step)⟩
                          · rw [if_neg c15] at H
                            have c15b0 : ((bt a0 x1_2) == 109) = false := beq_eq_false_iff_ne.mpr c15
                            have c15b1 : ((bt a0 x1_2) != 109) = true := bne_iff_ne.mpr c15
                            (first | rw [c15b0] | (simp only [i64_w, i32_w]; rw [c15b0]) | skip)
                            have H' := Aside0.mk H
                            clear H
                            go_wp2
                            go_meet
                            case rel => exact ⟨_, (((bt a0 x1_2) == 105)), (by first | rfl | (simp; done) | (simp [*]; done)), H', ⟨by have := HJ2.out; have := HK2.out; first | omega | exact Nat.le_refl _⟩, by repeat (first | exact Drawn0.refl _ | apply Drawn0.step)⟩
                        case rest =>
                          clear HC14
                          try clear c1
                          try clear p1
                          try clear q1
                          try clear hx1
                          try clear c2
                          try clear p2
                          try clear c4
                          try clear c4b0
                          try clear c4b1
                          try clear c6
                          try clear p6
                          try clear c7
                          try clear c7b0
                          try clear c8
                          try clear c8b0
                          try clear c8b1
                          try clear c9
                          try clear c9b0
                          try clear c10
                          try clear c10b0
                          try clear p11
                          try clear q11
                          try clear hx11
                          try clear c12
                          try clear c12b0
                          try clear c12b1
                          try clear c13
                          try clear c13b0
                          try clear c13b1
                          try clear c15
                          try clear c15b0
                          try clear c15b1
                          try clear p11
                          try clear p2
                          try clear q11
                          obtain ⟨kq, x33_13, rfl, HA, HJ13, ⟨mc13, rfl⟩⟩ := hcut
                          cases kq with
                          | zero => exact absurd HA.out (by simp [impl_LevelEnd.j2])
                          | succ kj13 =>
                            have H := HA.out
                            clear HA
                            simp only [impl_LevelEnd.j2] at H
                            by_cases c16 : x33_13 = true
                            · subst c16
                              have H1 : (impl_LevelEnd.l0 kj13 a0 (wrap64 (x1_2 + 1)) (wrap64 (x5_2 + 1))) = some r := by rw [if_pos rfl] at H; exact H
                              clear H
                              have H := H1
                              clear H1
                              have H' := Aside0.mk H
                              clear H
                              go_wp2
                              go_roundg kj13
                              case measure => have := HJ2.out; have := HK2.out; have := HJ13.out; omega
                              case rel => exact ⟨(wrap64 (x1_2 + 1)), (wrap64 (x5_2 + 1)), (by first | rfl | (simp; done) | (simp [*]; done)), (by first | rfl | (simp; done) | (simp [*]; done)), H', ⟨by have := HJ2.out; have := HK2.out; have := HJ13.out; omega⟩, by repeat (first | exact Drawn0.refl _ | apply Drawn0.step)⟩
                            · replace c16 := Bool.eq_false_iff.mpr c16
                              subst c16
                              have H1 : (if (bt a0 x1_2) = 117 then (if (wrap64 (x1_2 + 1)) = (a0.size : Int) then (some (-1)) else (if 0 ≤ (wrap64 (x1_2 + 1)) then (if (wrap64 (x1_2 + 1)) < (a0.size : Int) then (if (bt a0 (wrap64 (x1_2 + 1))) < 48 then (some (-1)) else (if (bt a0 (wrap64 (x1_2 + 1))) > 50 then (some (-1)) else (impl_LevelEnd.l0 kj13 a0 (wrap64 ((wrap64 (x1_2 + 1)) + 1)) (wrap64 (x5_2 - 1))))) else (none)) else (none))) else (some (-1))) = some r := by rw [if_neg (show ¬ (false = true) by decide)] at H; exact H
                              clear H
                              have H := H1
                              clear H1
                              by_cases c17 : (bt a0 x1_2) = 117
                              · rw [if_pos c17] at H
                                have c17b0 : ((bt a0 x1_2) == 117) = true := beq_iff_eq.mpr c17
                                have c17b1 : ((bt a0 x1_2) != 117) = false := bne_eq_false_iff_eq.mpr c17
                                clear c17
                                by_cases c18 : (wrap64 (x1_2 + 1)) = (a0.size : Int)
                                · rw [if_pos c18] at H
                                  have c18b0 : ((wrap64 (x1_2 + 1)) == (a0.size : Int)) = true := beq_iff_eq.mpr c18
                                  have c18b1 : ((wrap64 (x1_2 + 1)) != (a0.size : Int)) = false := bne_eq_false_iff_eq.mpr c18
                                  clear c18
                                  obtain rfl := Option.some.inj H
                                  go_wp2
                                  go_ret
                                  exact ⟨by first | rfl | (simp; done) | (simp [*]; done), by repeat (first | exact Drawn0.refl _ | apply Drawn0.step)⟩
                                · rw [if_neg c18] at H
                                  have c18b0 : ((wrap64 (x1_2 + 1)) == (a0.size : Int)) = false := beq_eq_false_iff_ne.mpr c18
                                  have c18b1 : ((wrap64 (x1_2 + 1)) != (a0.size : Int)) = true := bne_iff_ne.mpr c18
                                  obtain ⟨ji19, hji19⟩ : ∃ j_ : Int, (wrap64 (x1_2 + 1)) = j_ := ⟨_, rfl⟩
                                  replace H : (if 0 ≤ (ji19) then (if (ji19) < (a0.size : Int) then (if (bt a0 (ji19)) < 48 then (some (-1)) else (if (bt a0 (ji19)) > 50 then (some (-1)) else (impl_LevelEnd.l0 kj13 a0 (wrap64 ((ji19) + 1)) (wrap64 (x5_2 - 1))))) else (none)) else (none)) = some r := by first | (rw [hji19] at H; exact H) | (simp only [hji19] at H ⊢; exact H)
                                  (try rw [hji19] at c18b0)
                                  (try rw [hji19] at c18b1)
                                  have hji19w : (IntKind.i64.wrap (x1_2 + 1)) = ji19 := (i64_w _).trans hji19
                                  by_cases c20 : 0 ≤ (ji19)
                                  · rw [if_pos c20] at H
                                    have c20b0 : decide (0 ≤ (ji19)) = true := decide_eq_true c20
                                    clear c20
                                    by_cases c21 : (ji19) < (a0.size : Int)
                                    · rw [if_pos c21] at H
                                      have c21b0 : decide ((ji19) < (a0.size : Int)) = true := decide_eq_true c21
                                      clear c21
                                      by_cases c23 : (bt a0 (ji19)) < 48
                                      · rw [if_pos c23] at H
                                        have c23b0 : decide ((bt a0 (ji19)) < 48) = true := decide_eq_true c23
                                        clear c23
                                        obtain rfl := Option.some.inj H
                                        have p22 : 0 ≤ ((ji19) : Int) := of_decide_eq_true (by first | (with_reducible assumption) | assumption)
                                        have q22 : (ji19) < (a0.size : Int) := of_decide_eq_true (by first | (with_reducible assumption) | assumption)
                                        have hx22 := bt_at a0 (ji19)
                                        replace p22 := eq_true p22
                                        replace q22 := eq_true q22
                                        go_wp2
                                        go_ret
                                        exact ⟨by first | rfl | (simp; done) | (simp only [← hji19] <;> (first | rfl | simp)) | (simp [*]; done), by repeat (first | exact Drawn0.refl _ | apply Drawn0.step)⟩
                                      · rw [if_neg c23] at H
                                        have c23b0 : decide ((bt a0 (ji19)) < 48) = false := decide_eq_false c23
                                        clear c23
                                        by_cases c25 : (bt a0 (ji19)) > 50
                                        · rw [if_pos c25] at H
                                          have c25b0 : decide (50 < (bt a0 (ji19))) = true := decide_eq_true c25
                                          clear c25
                                          obtain rfl := Option.some.inj H
                                          have p22 : 0 ≤ ((ji19) : Int) := of_decide_eq_true (by first | (with_reducible assumption) | assumption)
                                          have q22 : (ji19) < (a0.size : Int) := of_decide_eq_true (by first | (with_reducible assumption) | assumption)
                                          have hx22 := bt_at a0 (ji19)
                                          replace p22 := eq_true p22
                                          replace q22 := eq_true q22
                                          have p24 : 0 ≤ ((ji19) : Int) := of_decide_eq_true (by first | (with_reducible assumption) | assumption)
                                          have q24 : (ji19) < (a0.size : Int) := of_decide_eq_true (by first | (with_reducible assumption) | assumption)
                                          have hx24 := bt_at a0 (ji19)
                                          replace p24 := eq_true p24
                                          replace q24 := eq_true q24
                                          go_wp2
                                          go_ret
                                          exact ⟨by first | rfl | (simp; done) | (simp only [← hji19] <;> (first | rfl | simp)) | (simp [*]; done), by repeat (first | exact Drawn0.refl _ | apply Drawn0.step)⟩
                                        · rw [if_neg c25] at H
                                          have c25b0 : decide (50 < (bt a0 (ji19))) = false := decide_eq_false c25
                                          clear c25
                                          have H' := Aside0.mk H
                                          clear H
                                          have p22 : 0 ≤ ((ji19) : Int) := of_decide_eq_true (by first | (with_reducible assumption) | assumption)
                                          have q22 : (ji19) < (a0.size : Int) := of_decide_eq_true (by first | (with_reducible assumption) | assumption)
                                          have hx22 := bt_at a0 (ji19)
                                          replace p22 := eq_true p22
                                          replace q22 := eq_true q22
                                          have p24 : 0 ≤ ((ji19) : Int) := of_decide_eq_true (by first | (with_reducible assumption) | assumption)
                                          have q24 : (ji19) < (a0.size : Int) := of_decide_eq_true (by first | (with_reducible assumption) | assumption)
                                          have hx24 := bt_at a0 (ji19)
                                          replace p24 := eq_true p24
                                          replace q24 := eq_true q24
                                          go_wp2
                                          go_roundg kj13
                                          case measure => have := HJ2.out; have := HK2.out; have := HJ13.out; omega
                                          case rel => exact ⟨(wrap64 ((ji19) + 1)), (wrap64 (x5_2 - 1)), (by first | rfl | (simp; done) | (simp only [← hji19] <;> (first | rfl | simp)) | (simp [*]; done)), (by first | rfl | (simp; done) | (simp [*]; done)), H', ⟨by have := HJ2.out; have := HK2.out; have := HJ13.out; omega⟩, by repeat (first | exact Drawn0.refl _ | apply Drawn0.step)⟩
                                    · rw [if_neg c21] at H
                                      exact absurd H (by simp)
                                  · rw [if_neg c20] at H
                                    exact absurd H (by simp)
                              · rw [if_neg c17] at H
                                have c17b0 : ((bt a0 x1_2) == 117) = false := beq_eq_false_iff_ne.mpr c17
                                have c17b1 : ((bt a0 x1_2) != 117) = true := bne_iff_ne.mpr c17
                                obtain rfl := Option.some.inj H
                                go_wp2
                                go_ret
                                exact ⟨by first | rfl | (simp; done) | (simp [*]; done), by repeat (first | exact Drawn0.refl _ | apply Drawn0.step)⟩
                  · rw [if_neg c10] at H
                    exact absurd H (by simp)
                · rw [if_neg c9] at H
                  exact absurd H (by simp)
            · rw [if_neg c7] at H
              have c7b0 : decide (0 < x5_2) = false := decide_eq_false c7
              clear c7
              obtain rfl := Option.some.inj H
              go_wp2
              go_ret
              exact ⟨by first | rfl | (simp; done) | (simp [*]; done), by repeat (first | exact Drawn0.refl _ | apply Drawn0.step)⟩

end Go.Proofs.Ytjnfehajgogjiaa.Q
