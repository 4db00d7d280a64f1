/- Printed for this claim by a program of this session (wip/tools/xprint.py) out of the translation: what each Go function comes to, and that it comes to it. Not trusted: Lean checks it. -/
import Derived.Test.YtjnfehajgogjiaaQ0
import Derived.Test.YtjnfehajgogjiaaQ3
import Derived.Test.YtjnfehajgogjiaaQ4
import Derived.Test.YtjnfehajgogjiaaQ5
import Derived.Test.YtjnfehajgogjiaaQ7
namespace Go.Proofs.Ytjnfehajgogjiaa.Q
open Go.RowKit Go.Proofs.YtjnfehajgogjiaaW.PrintWords Go.Proofs.YtjnfehajgogjiaaW.PrintLast Go.Proofs.YtjnfehajgogjiaaW.PrintMore
attribute [local go_sem] max2_int min2_int max_two min_two max_three min_three max_four min_four   -- for this text's walks alone
set_option linter.unusedVariables false
set_option linter.unusedSimpArgs false

/-! ### laws_FnLevelOrder: function 14 -/
mutual
def laws_FnLevelOrder.j0 : Nat → ByteArray → ByteArray → List Int → Bool → Bool → Option (Bool)
  | 0, _, _, _, _, _ => none
  | k + 1, x3, x4, x8, x9, x71 => if x71 = true then (some false) else (if x9 = true then ((some (([] : List Int) : List Int)).bind fun y265 => (if y265.length + x8.length < 17592186044416 then ((impl_LevelAt.f k x3 (y265 ++ x8)).bind fun t271 => ((some (([] : List Int) : List Int)).bind fun y272 => (if y272.length + x8.length < 17592186044416 then ((impl_LevelAt.f k x4 (y272 ++ x8)).bind fun t278 => (laws_FnLevelOrder.j1 k x3 x4 (decide (t271 ≤ t278)))) else (none)))) else (none))) else (laws_FnLevelOrder.j1 k x3 x4 false))
def laws_FnLevelOrder.j1 : Nat → ByteArray → ByteArray → Bool → Option (Bool)
  | 0, _, _, _ => none
  | k + 1, x3, x4, x85 => if x85 = true then (some false) else ((impl_LevelLe.f k x3 x3).bind fun t279 => (if t279 = true then (if 1 + x3.size ≤ 9223372036854775807 then (if ((⟨#[109]⟩ : ByteArray) ++ x3).size + x4.size ≤ 9223372036854775807 then ((impl_LevelLe.f k x3 (((⟨#[109]⟩ : ByteArray) ++ x3) ++ x4)).bind fun t280 => (if t280 = true then (if ((⟨#[105]⟩ : ByteArray) ++ x3).size + x4.size ≤ 9223372036854775807 then ((impl_LevelLe.f k (((⟨#[105]⟩ : ByteArray) ++ x3) ++ x4) (((⟨#[109]⟩ : ByteArray) ++ x3) ++ x4)).bind fun t281 => (if t281 = true then ((impl_LevelLe.f k x4 (((⟨#[105]⟩ : ByteArray) ++ x3) ++ x4)).bind fun t282 => (if t282 = true then ((impl_LevelLe.f k ((⟨#[43]⟩ : ByteArray) ++ x3) x3).bind fun t283 => (if t283 = true then (some false) else ((impl_LevelAbove.f k ((⟨#[43]⟩ : ByteArray) ++ x3)).bind fun t284 => (if t284 = true then (if ((⟨#[105]⟩ : ByteArray) ++ x3).size + 1 ≤ 9223372036854775807 then ((impl_LevelZero.f k (((⟨#[105]⟩ : ByteArray) ++ x3) ++ (⟨#[122]⟩ : ByteArray))).bind fun t285 => (if t285 = true then (if 1 + x4.size ≤ 9223372036854775807 then (if ((⟨#[109]⟩ : ByteArray) ++ x4).size + x3.size ≤ 9223372036854775807 then ((impl_LevelSame.f k (((⟨#[109]⟩ : ByteArray) ++ x3) ++ x4) (((⟨#[109]⟩ : ByteArray) ++ x4) ++ x3)).bind fun t286 => (some t286)) else (none)) else (none)) else (some false))) else (none)) else (some false))))) else (some false))) else (some false))) else (none)) else (some false))) else (none)) else (none)) else (some false)))
end
def laws_FnLevelOrder.f (k : Nat) (l0 : List Int) : Option (Bool) := (laws_big.f l0).bind fun t234 => (if t234 = true then (some true) else ((spec_DrawLevels.f k l0).bind fun bt235 => ((spec_DrawPlaces.f k l0).bind fun t237 => (if 0 < (t237.length : Int) then (if 1 < (t237.length : Int) then (if 2 < (t237.length : Int) then ((some (([Int.tmod (rd t237 0) 40, Int.tmod (rd t237 1) 40, Int.tmod (rd t237 2) 40] : List Int) : List Int)).bind fun y243 => ((impl_LevelLe.f k bt235.1 bt235.2).bind fun t246 => ((impl_LevelWitness.f k bt235.1 bt235.2).bind fun bt247 => ((some (([] : List Int) : List Int)).bind fun y251 => (if y251.length + y243.length < 17592186044416 then ((impl_LevelAt.f k bt235.1 (y251 ++ y243)).bind fun t257 => ((some (([] : List Int) : List Int)).bind fun y258 => (if y258.length + y243.length < 17592186044416 then ((impl_LevelAt.f k bt235.2 (y258 ++ y243)).bind fun t264 => (if (t246 == bt247.2) = true then (laws_FnLevelOrder.j0 k bt235.1 bt235.2 bt247.1 bt247.2 true) else (if t246 = true then (if t257 > t264 then (laws_FnLevelOrder.j0 k bt235.1 bt235.2 bt247.1 bt247.2 true) else (if t257 < 0 then (laws_FnLevelOrder.j0 k bt235.1 bt235.2 bt247.1 bt247.2 true) else (laws_FnLevelOrder.j0 k bt235.1 bt235.2 bt247.1 bt247.2 (decide (t264 < 0))))) else (if t257 < 0 then (laws_FnLevelOrder.j0 k bt235.1 bt235.2 bt247.1 bt247.2 true) else (laws_FnLevelOrder.j0 k bt235.1 bt235.2 bt247.1 bt247.2 (decide (t264 < 0))))))) else (none)))) else (none)))))) else (none)) else (none)) else (none)))))
theorem laws_FnLevelOrder.mono_l : ∀ k, (∀ y0 y1 y2 y3 y4, LeO (laws_FnLevelOrder.j0 k y0 y1 y2 y3 y4) (laws_FnLevelOrder.j0 (k + 1) y0 y1 y2 y3 y4)) ∧ (∀ y0 y1 y2, LeO (laws_FnLevelOrder.j1 k y0 y1 y2) (laws_FnLevelOrder.j1 (k + 1) y0 y1 y2))
  | 0 => ⟨fun _ _ _ _ _ r h => by simp [laws_FnLevelOrder.j0] at h, fun _ _ _ r h => by simp [laws_FnLevelOrder.j1] at h⟩
  | k + 1 => by
    obtain ⟨ih0, ih1⟩ := laws_FnLevelOrder.mono_l k
    refine ⟨?_, ?_⟩
    · intro y0 y1 y2 y3 y4
      unfold laws_FnLevelOrder.j0
      repeat' first
      | (with_reducible exact ih0 _ _ _ _ _)
      | (with_reducible exact ih1 _ _ _)
      | (with_reducible exact impl_LevelAbove.mono _ _)
      | (with_reducible exact impl_LevelAt.mono _ _ _)
      | (with_reducible exact impl_LevelLe.mono _ _ _)
      | (with_reducible exact impl_LevelSame.mono _ _ _)
      | (with_reducible exact impl_LevelWitness.mono _ _ _)
      | (with_reducible exact impl_LevelZero.mono _ _)
      | (with_reducible exact spec_DrawLevels.mono _ _)
      | (with_reducible exact spec_DrawPlaces.mono _ _)
      | (with_reducible exact LeO.refl _)
      | (with_reducible exact LeO.none _)
      | (with_reducible refine LeO.ite ?_ ?_)
      | (with_reducible refine LeO.bind ?_ (fun _ => ?_))
      | exact ih0 _ _ _ _ _
      | exact ih1 _ _ _
      | exact impl_LevelAbove.mono _ _
      | exact impl_LevelAt.mono _ _ _
      | exact impl_LevelLe.mono _ _ _
      | exact impl_LevelSame.mono _ _ _
      | exact impl_LevelWitness.mono _ _ _
      | exact impl_LevelZero.mono _ _
      | exact spec_DrawLevels.mono _ _
      | exact spec_DrawPlaces.mono _ _
      | exact LeO.none _
      | refine LeO.ite ?_ ?_
      | refine LeO.bind ?_ (fun _ => ?_)
    · intro y0 y1 y2
      unfold laws_FnLevelOrder.j1
      repeat' first
      | (with_reducible exact ih0 _ _ _ _ _)
      | (with_reducible exact ih1 _ _ _)
      | (with_reducible exact impl_LevelAbove.mono _ _)
      | (with_reducible exact impl_LevelAt.mono _ _ _)
      | (with_reducible exact impl_LevelLe.mono _ _ _)
      | (with_reducible exact impl_LevelSame.mono _ _ _)
      | (with_reducible exact impl_LevelWitness.mono _ _ _)
      | (with_reducible exact impl_LevelZero.mono _ _)
      | (with_reducible exact spec_DrawLevels.mono _ _)
      | (with_reducible exact spec_DrawPlaces.mono _ _)
      | (with_reducible exact LeO.refl _)
      | (with_reducible exact LeO.none _)
      | (with_reducible refine LeO.ite ?_ ?_)
      | (with_reducible refine LeO.bind ?_ (fun _ => ?_))
      | exact ih0 _ _ _ _ _
      | exact ih1 _ _ _
      | exact impl_LevelAbove.mono _ _
      | exact impl_LevelAt.mono _ _ _
      | exact impl_LevelLe.mono _ _ _
      | exact impl_LevelSame.mono _ _ _
      | exact impl_LevelWitness.mono _ _ _
      | exact impl_LevelZero.mono _ _
      | exact spec_DrawLevels.mono _ _
      | exact spec_DrawPlaces.mono _ _
      | exact LeO.none _
      | refine LeO.ite ?_ ?_
      | refine LeO.bind ?_ (fun _ => ?_)
theorem laws_FnLevelOrder.mono : ∀ a0 k, LeO (laws_FnLevelOrder.f k a0) (laws_FnLevelOrder.f (k + 1) a0) := by
  intro a0 k
  obtain ⟨ih0, ih1⟩ := laws_FnLevelOrder.mono_l k
  unfold laws_FnLevelOrder.f
  repeat' first
      | (with_reducible exact ih0 _ _ _ _ _)
      | (with_reducible exact ih1 _ _ _)
      | (with_reducible exact impl_LevelAbove.mono _ _)
      | (with_reducible exact impl_LevelAt.mono _ _ _)
      | (with_reducible exact impl_LevelLe.mono _ _ _)
      | (with_reducible exact impl_LevelSame.mono _ _ _)
      | (with_reducible exact impl_LevelWitness.mono _ _ _)
      | (with_reducible exact impl_LevelZero.mono _ _)
      | (with_reducible exact spec_DrawLevels.mono _ _)
      | (with_reducible exact spec_DrawPlaces.mono _ _)
      | (with_reducible exact LeO.refl _)
      | (with_reducible exact LeO.none _)
      | (with_reducible refine LeO.ite ?_ ?_)
      | (with_reducible refine LeO.bind ?_ (fun _ => ?_))
      | exact ih0 _ _ _ _ _
      | exact ih1 _ _ _
      | exact impl_LevelAbove.mono _ _
      | exact impl_LevelAt.mono _ _ _
      | exact impl_LevelLe.mono _ _ _
      | exact impl_LevelSame.mono _ _ _
      | exact impl_LevelWitness.mono _ _ _
      | exact impl_LevelZero.mono _ _
      | exact spec_DrawLevels.mono _ _
      | exact spec_DrawPlaces.mono _ _
      | exact LeO.none _
      | refine LeO.ite ?_ ?_
      | refine LeO.bind ?_ (fun _ => ?_)
def laws_FnLevelOrder.T5 : Bool × List (List Nat × List Nat) := (true, [([], []), ([0], [0]), ([1], [1]), ([2], [2]), ([], []), ([4], [4]), ([5], [5]), ([6], [6]), ([], []), ([8], [8]), ([9], [9]), ([10], [10]), ([3, 7, 11], [3, 7, 11]), ([12, 0, 1, 2, 3, 4, 5, 6, 7, 8, 9, 10, 11, 12], [12])])
def laws_FnLevelOrder.B5 : List Nat := [0, 1, 3, 7, 0, 16, 48, 112, 0, 256, 768, 1792, 4095, 8191]
theorem laws_FnLevelOrder.tab5 : rtab .any (opsOf Try.f14 5) = laws_FnLevelOrder.T5 := by kernel_rfl
theorem laws_FnLevelOrder.bits5 : waitsOk laws_FnLevelOrder.T5.2 laws_FnLevelOrder.B5 = true := by kernel_rfl
set_option maxHeartbeats 8000000 in
set_option maxRecDepth 100000 in
theorem laws_FnLevelOrder.calls (k : Nat) (A0 : Option Addr) (c0 : Nat) (l0 : List Int) (r : Bool) (w : World) (hr0 : Kd.C (Kd.int .u8) w A0 l0.length l0) (hc0 : l0.length ≤ c0) (h : laws_FnLevelOrder.f k l0 = some r) :
    Calls Try.prog 14 #[.slice A0 l0.length c0] w fun e w' => e = .returned (.bool r) ∧ Below w.heap.size w w' := by
  have HR0 := Aside0.mk hr0
  have HC0 := Aside0.mk hc0
  clear hr0 hc0
  have HB := Aside0.mk (Below.refl w.heap.size w)
  have H : ((laws_big.f l0).bind fun t234 => (if t234 = true then (some true) else ((spec_DrawLevels.f k l0).bind fun bt235 => ((spec_DrawPlaces.f k l0).bind fun t237 => (if 0 < (t237.length : Int) then (if 1 < (t237.length : Int) then (if 2 < (t237.length : Int) then ((some (([Int.tmod (rd t237 0) 40, Int.tmod (rd t237 1) 40, Int.tmod (rd t237 2) 40] : List Int) : List Int)).bind fun y243 => ((impl_LevelLe.f k bt235.1 bt235.2).bind fun t246 => ((impl_LevelWitness.f k bt235.1 bt235.2).bind fun bt247 => ((some (([] : List Int) : List Int)).bind fun y251 => (if y251.length + y243.length < 17592186044416 then ((impl_LevelAt.f k bt235.1 (y251 ++ y243)).bind fun t257 => ((some (([] : List Int) : List Int)).bind fun y258 => (if y258.length + y243.length < 17592186044416 then ((impl_LevelAt.f k bt235.2 (y258 ++ y243)).bind fun t264 => (if (t246 == bt247.2) = true then (laws_FnLevelOrder.j0 k bt235.1 bt235.2 bt247.1 bt247.2 true) else (if t246 = true then (if t257 > t264 then (laws_FnLevelOrder.j0 k bt235.1 bt235.2 bt247.1 bt247.2 true) else (if t257 < 0 then (laws_FnLevelOrder.j0 k bt235.1 bt235.2 bt247.1 bt247.2 true) else (laws_FnLevelOrder.j0 k bt235.1 bt235.2 bt247.1 bt247.2 (decide (t264 < 0))))) else (if t257 < 0 then (laws_FnLevelOrder.j0 k bt235.1 bt235.2 bt247.1 bt247.2 true) else (laws_FnLevelOrder.j0 k bt235.1 bt235.2 bt247.1 bt247.2 (decide (t264 < 0))))))) else (none)))) else (none)))))) else (none)) else (none)) else (none)))))) = some r := h
  clear h
  replace H := Option.bind_eq_some_iff.mp H
  obtain ⟨t234, A20, H⟩ := H
  replace H : (if t234 = true then (some true) else ((spec_DrawLevels.f k l0).bind fun bt235 => ((spec_DrawPlaces.f k l0).bind fun t237 => (if 0 < (t237.length : Int) then (if 1 < (t237.length : Int) then (if 2 < (t237.length : Int) then ((some (([Int.tmod (rd t237 0) 40, Int.tmod (rd t237 1) 40, Int.tmod (rd t237 2) 40] : List Int) : List Int)).bind fun y243 => ((impl_LevelLe.f k bt235.1 bt235.2).bind fun t246 => ((impl_LevelWitness.f k bt235.1 bt235.2).bind fun bt247 => ((some (([] : List Int) : List Int)).bind fun y251 => (if y251.length + y243.length < 17592186044416 then ((impl_LevelAt.f k bt235.1 (y251 ++ y243)).bind fun t257 => ((some (([] : List Int) : List Int)).bind fun y258 => (if y258.length + y243.length < 17592186044416 then ((impl_LevelAt.f k bt235.2 (y258 ++ y243)).bind fun t264 => (if (t246 == bt247.2) = true then (laws_FnLevelOrder.j0 k bt235.1 bt235.2 bt247.1 bt247.2 true) else (if t246 = true then (if t257 > t264 then (laws_FnLevelOrder.j0 k bt235.1 bt235.2 bt247.1 bt247.2 true) else (if t257 < 0 then (laws_FnLevelOrder.j0 k bt235.1 bt235.2 bt247.1 bt247.2 true) else (laws_FnLevelOrder.j0 k bt235.1 bt235.2 bt247.1 bt247.2 (decide (t264 < 0))))) else (if t257 < 0 then (laws_FnLevelOrder.j0 k bt235.1 bt235.2 bt247.1 bt247.2 true) else (laws_FnLevelOrder.j0 k bt235.1 bt235.2 bt247.1 bt247.2 (decide (t264 < 0))))))) else (none)))) else (none)))))) else (none)) else (none)) else (none))))) = some r := H
  have A2 := Aside0.mk A20
  clear A20
  by_cases c3 : t234 = true
  · subst c3
    have H1 : (some true) = some r := by rw [if_pos rfl] at H; exact H
    clear H
    have H := H1
    clear H1
    obtain rfl := Option.some.inj H
    go_enter Try.func14, Try.ntmps14
    go_wp2_with (first | ((with_reducible refine gate_callee (f := 40) rfl ?_); refine goesL_ (some 13) rfl rfl Try.func40 (by kernel_rfl) rfl #[.slice A0 l0.length c0] rfl (by (try simp only [List.map_toArray, List.map_cons, List.map_nil]); first | done | rfl | (simp only [List.length_drop, List.length_take]; rfl)) ?_; (with_reducible refine (laws_big.calls _ _ l0 true _ ?side1 ?side2 A2.out).mono ?_); (case side1 => repeat (first | exact HR0.out | (with_reducible refine Kd.C_alloc ?_ _) | (with_reducible refine Kd.C_drewN ?_ _) | (with_reducible refine Kd.C_drew ?_))); (case side2 => exact HC0.out); rintro e w' ⟨rfl, ⟨nd, rfl⟩⟩; refine ⟨_, rfl, ?_⟩))
    go_ret
    exact ⟨by first | rfl | (simp [errW_none, errW_some] <;> rfl) | (simp [*, errW_none, errW_some] <;> rfl), by repeat (first | (with_reducible first | exact HB.out | apply below_alloc | apply pw_below_drewN | apply below_drew1) | exact HB.out)⟩
  · replace c3 := Bool.eq_false_iff.mpr c3
    subst c3
    have H1 : ((spec_DrawLevels.f k l0).bind fun bt235 => ((spec_DrawPlaces.f k l0).bind fun t237 => (if 0 < (t237.length : Int) then (if 1 < (t237.length : Int) then (if 2 < (t237.length : Int) then ((some (([Int.tmod (rd t237 0) 40, Int.tmod (rd t237 1) 40, Int.tmod (rd t237 2) 40] : List Int) : List Int)).bind fun y243 => ((impl_LevelLe.f k bt235.1 bt235.2).bind fun t246 => ((impl_LevelWitness.f k bt235.1 bt235.2).bind fun bt247 => ((some (([] : List Int) : List Int)).bind fun y251 => (if y251.length + y243.length < 17592186044416 then ((impl_LevelAt.f k bt235.1 (y251 ++ y243)).bind fun t257 => ((some (([] : List Int) : List Int)).bind fun y258 => (if y258.length + y243.length < 17592186044416 then ((impl_LevelAt.f k bt235.2 (y258 ++ y243)).bind fun t264 => (if (t246 == bt247.2) = true then (laws_FnLevelOrder.j0 k bt235.1 bt235.2 bt247.1 bt247.2 true) else (if t246 = true then (if t257 > t264 then (laws_FnLevelOrder.j0 k bt235.1 bt235.2 bt247.1 bt247.2 true) else (if t257 < 0 then (laws_FnLevelOrder.j0 k bt235.1 bt235.2 bt247.1 bt247.2 true) else (laws_FnLevelOrder.j0 k bt235.1 bt235.2 bt247.1 bt247.2 (decide (t264 < 0))))) else (if t257 < 0 then (laws_FnLevelOrder.j0 k bt235.1 bt235.2 bt247.1 bt247.2 true) else (laws_FnLevelOrder.j0 k bt235.1 bt235.2 bt247.1 bt247.2 (decide (t264 < 0))))))) else (none)))) else (none)))))) else (none)) else (none)) else (none)))) = some r := by rw [if_neg (show ¬ (false = true) by decide)] at H; exact H
    clear H
    have H := H1
    clear H1
    replace H := Option.bind_eq_some_iff.mp H
    obtain ⟨⟨t235, t236⟩, A40, H⟩ := H
    replace H : ((spec_DrawPlaces.f k l0).bind fun t237 => (if 0 < (t237.length : Int) then (if 1 < (t237.length : Int) then (if 2 < (t237.length : Int) then ((some (([Int.tmod (rd t237 0) 40, Int.tmod (rd t237 1) 40, Int.tmod (rd t237 2) 40] : List Int) : List Int)).bind fun y243 => ((impl_LevelLe.f k t235 t236).bind fun t246 => ((impl_LevelWitness.f k t235 t236).bind fun bt247 => ((some (([] : List Int) : List Int)).bind fun y251 => (if y251.length + y243.length < 17592186044416 then ((impl_LevelAt.f k t235 (y251 ++ y243)).bind fun t257 => ((some (([] : List Int) : List Int)).bind fun y258 => (if y258.length + y243.length < 17592186044416 then ((impl_LevelAt.f k t236 (y258 ++ y243)).bind fun t264 => (if (t246 == bt247.2) = true then (laws_FnLevelOrder.j0 k t235 t236 bt247.1 bt247.2 true) else (if t246 = true then (if t257 > t264 then (laws_FnLevelOrder.j0 k t235 t236 bt247.1 bt247.2 true) else (if t257 < 0 then (laws_FnLevelOrder.j0 k t235 t236 bt247.1 bt247.2 true) else (laws_FnLevelOrder.j0 k t235 t236 bt247.1 bt247.2 (decide (t264 < 0))))) else (if t257 < 0 then (laws_FnLevelOrder.j0 k t235 t236 bt247.1 bt247.2 true) else (laws_FnLevelOrder.j0 k t235 t236 bt247.1 bt247.2 (decide (t264 < 0))))))) else (none)))) else (none)))))) else (none)) else (none)) else (none))) = some r := H
    have A4 := Aside0.mk A40
    clear A40
    replace H := Option.bind_eq_some_iff.mp H
    obtain ⟨t237, A50, H⟩ := H
    replace H : (if 0 < (t237.length : Int) then (if 1 < (t237.length : Int) then (if 2 < (t237.length : Int) then ((some (([Int.tmod (rd t237 0) 40, Int.tmod (rd t237 1) 40, Int.tmod (rd t237 2) 40] : List Int) : List Int)).bind fun y243 => ((impl_LevelLe.f k t235 t236).bind fun t246 => ((impl_LevelWitness.f k t235 t236).bind fun bt247 => ((some (([] : List Int) : List Int)).bind fun y251 => (if y251.length + y243.length < 17592186044416 then ((impl_LevelAt.f k t235 (y251 ++ y243)).bind fun t257 => ((some (([] : List Int) : List Int)).bind fun y258 => (if y258.length + y243.length < 17592186044416 then ((impl_LevelAt.f k t236 (y258 ++ y243)).bind fun t264 => (if (t246 == bt247.2) = true then (laws_FnLevelOrder.j0 k t235 t236 bt247.1 bt247.2 true) else (if t246 = true then (if t257 > t264 then (laws_FnLevelOrder.j0 k t235 t236 bt247.1 bt247.2 true) else (if t257 < 0 then (laws_FnLevelOrder.j0 k t235 t236 bt247.1 bt247.2 true) else (laws_FnLevelOrder.j0 k t235 t236 bt247.1 bt247.2 (decide (t264 < 0))))) else (if t257 < 0 then (laws_FnLevelOrder.j0 k t235 t236 bt247.1 bt247.2 true) else (laws_FnLevelOrder.j0 k t235 t236 bt247.1 bt247.2 (decide (t264 < 0))))))) else (none)))) else (none)))))) else (none)) else (none)) else (none)) = some r := H
    have A5 := Aside0.mk A50
    clear A50
    by_cases c6 : 0 < (t237.length : Int)
    · rw [if_pos c6] at H
      have c6b0 : decide (0 < (t237.length : Int)) = true := decide_eq_true c6
      have c6b1 : decide (0 < t237.length) = true := decide_eq_true (by omega)
      clear c6
      by_cases c7 : 1 < (t237.length : Int)
      · rw [if_pos c7] at H
        have c7b0 : decide (1 < (t237.length : Int)) = true := decide_eq_true c7
        have c7b1 : decide (1 < t237.length) = true := decide_eq_true (by omega)
        clear c7
        by_cases c8 : 2 < (t237.length : Int)
        · rw [if_pos c8] at H
          have c8b0 : decide (2 < (t237.length : Int)) = true := decide_eq_true c8
          have c8b1 : decide (2 < t237.length) = true := decide_eq_true (by omega)
          clear c8
          obtain ⟨y243, hy243⟩ : ∃ y_ : List Int, y_ = (([Int.tmod (rd t237 0) 40, Int.tmod (rd t237 1) 40, Int.tmod (rd t237 2) 40] : List Int)) := ⟨_, rfl⟩
          replace H : ((impl_LevelLe.f k t235 t236).bind fun t246 => ((impl_LevelWitness.f k t235 t236).bind fun bt247 => ((some (([] : List Int) : List Int)).bind fun y251 => (if y251.length + y243.length < 17592186044416 then ((impl_LevelAt.f k t235 (y251 ++ y243)).bind fun t257 => ((some (([] : List Int) : List Int)).bind fun y258 => (if y258.length + y243.length < 17592186044416 then ((impl_LevelAt.f k t236 (y258 ++ y243)).bind fun t264 => (if (t246 == bt247.2) = true then (laws_FnLevelOrder.j0 k t235 t236 bt247.1 bt247.2 true) else (if t246 = true then (if t257 > t264 then (laws_FnLevelOrder.j0 k t235 t236 bt247.1 bt247.2 true) else (if t257 < 0 then (laws_FnLevelOrder.j0 k t235 t236 bt247.1 bt247.2 true) else (laws_FnLevelOrder.j0 k t235 t236 bt247.1 bt247.2 (decide (t264 < 0))))) else (if t257 < 0 then (laws_FnLevelOrder.j0 k t235 t236 bt247.1 bt247.2 true) else (laws_FnLevelOrder.j0 k t235 t236 bt247.1 bt247.2 (decide (t264 < 0))))))) else (none)))) else (none))))) = some r := by first | (rw [hy243]; with_reducible exact H) | (have H2_ := (Option.bind_some _ _).symm.trans H; rw [hy243]; with_reducible exact H2_) | (have H2_ := (Option.bind_some _ _).symm.trans H; with_reducible exact H2_) | with_reducible exact H | (rw [hy243]; exact H) | exact H
          have Ny243 := Aside0.mk hy243
          clear hy243
          replace H := Option.bind_eq_some_iff.mp H
          obtain ⟨t246, A90, H⟩ := H
          replace H : ((impl_LevelWitness.f k t235 t236).bind fun bt247 => ((some (([] : List Int) : List Int)).bind fun y251 => (if y251.length + y243.length < 17592186044416 then ((impl_LevelAt.f k t235 (y251 ++ y243)).bind fun t257 => ((some (([] : List Int) : List Int)).bind fun y258 => (if y258.length + y243.length < 17592186044416 then ((impl_LevelAt.f k t236 (y258 ++ y243)).bind fun t264 => (if (t246 == bt247.2) = true then (laws_FnLevelOrder.j0 k t235 t236 bt247.1 bt247.2 true) else (if t246 = true then (if t257 > t264 then (laws_FnLevelOrder.j0 k t235 t236 bt247.1 bt247.2 true) else (if t257 < 0 then (laws_FnLevelOrder.j0 k t235 t236 bt247.1 bt247.2 true) else (laws_FnLevelOrder.j0 k t235 t236 bt247.1 bt247.2 (decide (t264 < 0))))) else (if t257 < 0 then (laws_FnLevelOrder.j0 k t235 t236 bt247.1 bt247.2 true) else (laws_FnLevelOrder.j0 k t235 t236 bt247.1 bt247.2 (decide (t264 < 0))))))) else (none)))) else (none)))) = some r := H
          have A9 := Aside0.mk A90
          clear A90
          replace H := Option.bind_eq_some_iff.mp H
          obtain ⟨⟨t247, t248⟩, A100, H⟩ := H
          replace H : ((some (([] : List Int) : List Int)).bind fun y251 => (if y251.length + y243.length < 17592186044416 then ((impl_LevelAt.f k t235 (y251 ++ y243)).bind fun t257 => ((some (([] : List Int) : List Int)).bind fun y258 => (if y258.length + y243.length < 17592186044416 then ((impl_LevelAt.f k t236 (y258 ++ y243)).bind fun t264 => (if (t246 == t248) = true then (laws_FnLevelOrder.j0 k t235 t236 t247 t248 true) else (if t246 = true then (if t257 > t264 then (laws_FnLevelOrder.j0 k t235 t236 t247 t248 true) else (if t257 < 0 then (laws_FnLevelOrder.j0 k t235 t236 t247 t248 true) else (laws_FnLevelOrder.j0 k t235 t236 t247 t248 (decide (t264 < 0))))) else (if t257 < 0 then (laws_FnLevelOrder.j0 k t235 t236 t247 t248 true) else (laws_FnLevelOrder.j0 k t235 t236 t247 t248 (decide (t264 < 0))))))) else (none)))) else (none))) = some r := H
          have A10 := Aside0.mk A100
          clear A100
          obtain ⟨y251, hy251⟩ : ∃ y_ : List Int, y_ = (([] : List Int)) := ⟨_, rfl⟩
          replace H : (if y251.length + y243.length < 17592186044416 then ((impl_LevelAt.f k t235 (y251 ++ y243)).bind fun t257 => ((some (([] : List Int) : List Int)).bind fun y258 => (if y258.length + y243.length < 17592186044416 then ((impl_LevelAt.f k t236 (y258 ++ y243)).bind fun t264 => (if (t246 == t248) = true then (laws_FnLevelOrder.j0 k t235 t236 t247 t248 true) else (if t246 = true then (if t257 > t264 then (laws_FnLevelOrder.j0 k t235 t236 t247 t248 true) else (if t257 < 0 then (laws_FnLevelOrder.j0 k t235 t236 t247 t248 true) else (laws_FnLevelOrder.j0 k t235 t236 t247 t248 (decide (t264 < 0))))) else (if t257 < 0 then (laws_FnLevelOrder.j0 k t235 t236 t247 t248 true) else (laws_FnLevelOrder.j0 k t235 t236 t247 t248 (decide (t264 < 0))))))) else (none)))) else (none)) = some r := by first | (rw [hy251]; with_reducible exact H) | (have H2_ := (Option.bind_some _ _).symm.trans H; rw [hy251]; with_reducible exact H2_) | (have H2_ := (Option.bind_some _ _).symm.trans H; with_reducible exact H2_) | with_reducible exact H | (rw [hy251]; exact H) | exact H
          have Ny251 := Aside0.mk hy251
          clear hy251
          by_cases c11 : y251.length + y243.length < 17592186044416
          · rw [if_pos c11] at H
            have LMc11 := Aside0.mk c11
            clear c11
            obtain ⟨y254, hy254⟩ : ∃ y_ : List Int, y_ = (y251 ++ y243) := ⟨_, rfl⟩
            replace H : ((impl_LevelAt.f k t235 y254).bind fun t257 => ((some (([] : List Int) : List Int)).bind fun y258 => (if y258.length + y243.length < 17592186044416 then ((impl_LevelAt.f k t236 (y258 ++ y243)).bind fun t264 => (if (t246 == t248) = true then (laws_FnLevelOrder.j0 k t235 t236 t247 t248 true) else (if t246 = true then (if t257 > t264 then (laws_FnLevelOrder.j0 k t235 t236 t247 t248 true) else (if t257 < 0 then (laws_FnLevelOrder.j0 k t235 t236 t247 t248 true) else (laws_FnLevelOrder.j0 k t235 t236 t247 t248 (decide (t264 < 0))))) else (if t257 < 0 then (laws_FnLevelOrder.j0 k t235 t236 t247 t248 true) else (laws_FnLevelOrder.j0 k t235 t236 t247 t248 (decide (t264 < 0))))))) else (none)))) = some r := by first | (rw [hy254]; with_reducible exact H) | (have H2_ := (Option.bind_some _ _).symm.trans H; rw [hy254]; with_reducible exact H2_) | (have H2_ := (Option.bind_some _ _).symm.trans H; with_reducible exact H2_) | with_reducible exact H | (rw [hy254]; exact H) | exact H
            have Ny254 := Aside0.mk hy254
            clear hy254
            replace H := Option.bind_eq_some_iff.mp H
            obtain ⟨t257, A120, H⟩ := H
            replace H : ((some (([] : List Int) : List Int)).bind fun y258 => (if y258.length + y243.length < 17592186044416 then ((impl_LevelAt.f k t236 (y258 ++ y243)).bind fun t264 => (if (t246 == t248) = true then (laws_FnLevelOrder.j0 k t235 t236 t247 t248 true) else (if t246 = true then (if t257 > t264 then (laws_FnLevelOrder.j0 k t235 t236 t247 t248 true) else (if t257 < 0 then (laws_FnLevelOrder.j0 k t235 t236 t247 t248 true) else (laws_FnLevelOrder.j0 k t235 t236 t247 t248 (decide (t264 < 0))))) else (if t257 < 0 then (laws_FnLevelOrder.j0 k t235 t236 t247 t248 true) else (laws_FnLevelOrder.j0 k t235 t236 t247 t248 (decide (t264 < 0))))))) else (none))) = some r := H
            have A12 := Aside0.mk A120
            clear A120
            obtain ⟨y258, hy258⟩ : ∃ y_ : List Int, y_ = (([] : List Int)) := ⟨_, rfl⟩
            replace H : (if y258.length + y243.length < 17592186044416 then ((impl_LevelAt.f k t236 (y258 ++ y243)).bind fun t264 => (if (t246 == t248) = true then (laws_FnLevelOrder.j0 k t235 t236 t247 t248 true) else (if t246 = true then (if t257 > t264 then (laws_FnLevelOrder.j0 k t235 t236 t247 t248 true) else (if t257 < 0 then (laws_FnLevelOrder.j0 k t235 t236 t247 t248 true) else (laws_FnLevelOrder.j0 k t235 t236 t247 t248 (decide (t264 < 0))))) else (if t257 < 0 then (laws_FnLevelOrder.j0 k t235 t236 t247 t248 true) else (laws_FnLevelOrder.j0 k t235 t236 t247 t248 (decide (t264 < 0))))))) else (none)) = some r := by first | (rw [hy258]; with_reducible exact H) | (have H2_ := (Option.bind_some _ _).symm.trans H; rw [hy258]; with_reducible exact H2_) | (have H2_ := (Option.bind_some _ _).symm.trans H; with_reducible exact H2_) | with_reducible exact H | (rw [hy258]; exact H) | exact H
            have Ny258 := Aside0.mk hy258
            clear hy258
            by_cases c13 : y258.length + y243.length < 17592186044416
            · rw [if_pos c13] at H
              have LMc13 := Aside0.mk c13
              clear c13
              obtain ⟨y261, hy261⟩ : ∃ y_ : List Int, y_ = (y258 ++ y243) := ⟨_, rfl⟩
              replace H : ((impl_LevelAt.f k t236 y261).bind fun t264 => (if (t246 == t248) = true then (laws_FnLevelOrder.j0 k t235 t236 t247 t248 true) else (if t246 = true then (if t257 > t264 then (laws_FnLevelOrder.j0 k t235 t236 t247 t248 true) else (if t257 < 0 then (laws_FnLevelOrder.j0 k t235 t236 t247 t248 true) else (laws_FnLevelOrder.j0 k t235 t236 t247 t248 (decide (t264 < 0))))) else (if t257 < 0 then (laws_FnLevelOrder.j0 k t235 t236 t247 t248 true) else (laws_FnLevelOrder.j0 k t235 t236 t247 t248 (decide (t264 < 0))))))) = some r := by first | (rw [hy261]; with_reducible exact H) | (have H2_ := (Option.bind_some _ _).symm.trans H; rw [hy261]; with_reducible exact H2_) | (have H2_ := (Option.bind_some _ _).symm.trans H; with_reducible exact H2_) | with_reducible exact H | (rw [hy261]; exact H) | exact H
              have Ny261 := Aside0.mk hy261
              clear hy261
              replace H := Option.bind_eq_some_iff.mp H
              obtain ⟨t264, A140, H⟩ := H
              replace H : (if (t246 == t248) = true then (laws_FnLevelOrder.j0 k t235 t236 t247 t248 true) else (if t246 = true then (if t257 > t264 then (laws_FnLevelOrder.j0 k t235 t236 t247 t248 true) else (if t257 < 0 then (laws_FnLevelOrder.j0 k t235 t236 t247 t248 true) else (laws_FnLevelOrder.j0 k t235 t236 t247 t248 (decide (t264 < 0))))) else (if t257 < 0 then (laws_FnLevelOrder.j0 k t235 t236 t247 t248 true) else (laws_FnLevelOrder.j0 k t235 t236 t247 t248 (decide (t264 < 0)))))) = some r := H
              have A14 := Aside0.mk A140
              clear A140
              have HC15 := Aside0.mk H
              clear H
              go_enter Try.func14, Try.ntmps14
              try go_wp2_with (first | ((with_reducible refine gate_callee (f := 40) rfl ?_); refine goesL_ (some 13) rfl rfl Try.func40 (by kernel_rfl) rfl #[.slice A0 l0.length c0] rfl (by (try simp only [List.map_toArray, List.map_cons, List.map_nil]); first | done | rfl | (simp only [List.length_drop, List.length_take]; rfl)) ?_; (with_reducible refine (laws_big.calls _ _ l0 false _ ?side1 ?side2 A2.out).mono ?_); (case side1 => repeat (first | exact HR0.out | (with_reducible refine Kd.C_alloc ?_ _) | (with_reducible refine Kd.C_drewN ?_ _) | (with_reducible refine Kd.C_drew ?_))); (case side2 => exact HC0.out); rintro e w' ⟨rfl, ⟨nd, rfl⟩⟩; refine ⟨_, rfl, ?_⟩) | ((with_reducible refine gate_callee (f := 41) rfl ?_); refine goesL_ (some 16) rfl rfl Try.func41 (by kernel_rfl) rfl #[.slice A0 l0.length c0] rfl (by (try simp only [List.map_toArray, List.map_cons, List.map_nil]); first | done | rfl | (simp only [List.length_drop, List.length_take]; rfl)) ?_; (with_reducible refine (spec_DrawLevels.calls k _ _ l0 t235 t236 _ ?side1 ?side2 A4.out).mono ?_); (case side1 => repeat (first | exact HR0.out | (with_reducible refine Kd.C_alloc ?_ _) | (with_reducible refine Kd.C_drewN ?_ _) | (with_reducible refine Kd.C_drew ?_))); (case side2 => exact HC0.out); rintro e w16 ⟨rfl, hb⟩; refine ⟨_, rfl, ?_⟩; have n0_ := Aside0.mk (below_step (by repeat (first | (with_reducible first | exact HB.out | apply below_alloc | apply pw_below_drewN | apply below_drew1) | exact HB.out)) hb); clear HB; have HB := n0_; clear n0_; (try clear hb); (try clear hb2); (try clear hk); (try clear hi)) | ((with_reducible refine gate_callee (f := 44) rfl ?_); refine goesL_ (some 20) rfl rfl Try.func44 (by kernel_rfl) rfl #[.slice A0 l0.length c0] rfl (by (try simp only [List.map_toArray, List.map_cons, List.map_nil]); first | done | rfl | (simp only [List.length_drop, List.length_take]; rfl)) ?_; (with_reducible refine (spec_DrawPlaces.calls k _ _ l0 t237 _ ?side1 ?side2 A5.out).mono ?_); (case side1 => repeat (first | exact (Kd.C_below HR0.out HB.out) | (with_reducible refine Kd.C_alloc ?_ _) | (with_reducible refine Kd.C_drewN ?_ _) | (with_reducible refine Kd.C_drew ?_))); (case side2 => exact HC0.out); rintro e w17 ⟨v238, rfl, ho0, hb⟩; refine ⟨_, rfl, ?_⟩; have n0_ := Aside0.mk (Kd.R_lower ho0 (below_size (by repeat (first | (with_reducible first | exact HB.out | apply below_alloc | apply pw_below_drewN | apply below_drew1) | exact HB.out)))); have n1_ := Aside0.mk (below_step (by repeat (first | (with_reducible first | exact HB.out | apply below_alloc | apply pw_below_drewN | apply below_drew1) | exact HB.out)) hb); clear HB; have HO239 := n0_; have HB := n1_; clear n0_ n1_; (try clear hb); (try clear hb2); (try clear hk); (try clear hi); (try clear ho0)))
              have n0_ := Aside0.mk (Kd.R_drew HO239.out)
              have n1_ := Aside0.mk (below_drew1 HB.out)
              clear HO239
              clear HB
              have HO239 := n0_
              have HB := n1_
              clear n0_ n1_
              obtain ⟨Ao19, co19, eo19⟩ := Kd.R_slice HO239.out
              (first | subst eo19 | (injection eo19 with f1_ f2_ f3_; have f4_ := f1_.symm; have f5_ := f3_.symm; clear f1_ f2_ f3_; subst f4_; subst f5_))
              have p240 : 0 ≤ (0 : Int) := (by omega)
              have q240 : 0 < (t237.length : Int) := of_decide_eq_true (by first | (with_reducible assumption) | assumption)
              obtain ⟨ad240, e240, hx240_0⟩ := Kd.at_int (Kd.R_reads' HO239.out).2.2 0 p240 q240
              cases e240
              have qi240 : (0 < t237.length) = True := eq_true (by omega)
              (try rw [show ((0 : Int)).toNat = 0 from rfl] at hx240_0)
              (try rw [Addr.add_zero'] at hx240_0)
              replace p240 := eq_true p240
              replace q240 := eq_true q240
              have p241 : 0 ≤ (1 : Int) := (by omega)
              have q241 : 1 < (t237.length : Int) := of_decide_eq_true (by first | (with_reducible assumption) | assumption)
              obtain ⟨ad241, e241, hx241_0⟩ := Kd.at_int (Kd.R_reads' HO239.out).2.2 1 p241 q241
              obtain rfl : ad240 = ad241 := (by injection e241)
              (try simp only [show (1 : Int).toNat = 1 from rfl, Nat.reduceMul, Nat.reduceEqDiff, Go.Addr.add, ↓reduceIte] at hx241_0)
              have qi241 : (1 < t237.length) = True := eq_true (by omega)
              (try rw [show ((1 : Int)).toNat = 1 from rfl] at hx241_0)
              replace p241 := eq_true p241
              replace q241 := eq_true q241
              have p242 : 0 ≤ (2 : Int) := (by omega)
              have q242 : 2 < (t237.length : Int) := of_decide_eq_true (by first | (with_reducible assumption) | assumption)
              obtain ⟨ad242, e242, hx242_0⟩ := Kd.at_int (Kd.R_reads' HO239.out).2.2 2 p242 q242
              obtain rfl : ad240 = ad242 := (by injection e242)
              (try simp only [show (2 : Int).toNat = 2 from rfl, Nat.reduceMul, Nat.reduceEqDiff, Go.Addr.add, ↓reduceIte] at hx242_0)
              have qi242 : (2 < t237.length) = True := eq_true (by omega)
              (try rw [show ((2 : Int)).toNat = 2 from rfl] at hx242_0)
              replace p242 := eq_true p242
              replace q242 := eq_true q242
              refine start_ (n := 14) (S := fun w' => w'.cell? ad240 = some (.int .i64 (rd t237 0)) ∧ w'.cell? ⟨ad240.block, ad240.off + 1, none⟩ = some (.int .i64 (rd t237 1)) ∧ w'.cell? ⟨ad240.block, ad240.off + 2, none⟩ = some (.int .i64 (rd t237 2))) (ds := []) #[false, false, false, false, false, false, false, false, false, false, false, false, false, false] (by kernel_rfl) rfl rfl ⟨hx240_0, hx241_0, hx242_0⟩ (fun hHeld => ?_); refine with_tabW laws_FnLevelOrder.tab5 laws_FnLevelOrder.bits5 (fun HT_ HW_ => ?_)
              generalize w17.drew = w18 at HO239 HB hx240_0 hx241_0 hx242_0 hHeld ⊢
              refine pure_ (i := 0) (N := some 21) (v := ?_) (a' := ?_) #[true, false, false, false, false, false, false, false, false, false, false, false, false, false] rfl rfl (any_of HT_.out (by kernel_rfl)) (fun _ _ _ h => h) (Or.inl ⟨by rfl, ?_⟩) ?_ ?_
              rotate_left
              · intro w'
                go_simp
                with_reducible rfl
              rotate_left
              · simp only [Act.put, List.setIfInBounds_toArray, List.set_cons_zero, List.set_cons_succ, i64_w, i32_w]
                rfl
              refine pure_ (i := 1) (N := some 22) (v := ?_) (a' := ?_) #[true, true, false, false, false, false, false, false, false, false, false, false, false, false] rfl rfl (any_of HT_.out (by kernel_rfl)) (fun _ _ _ h => h) (Or.inl ⟨by rfl, ?_⟩) ?_ ?_
              rotate_left
              · intro w'
                go_simp
                with_reducible rfl
              rotate_left
              · simp only [Act.put, List.setIfInBounds_toArray, List.set_cons_zero, List.set_cons_succ, i64_w, i32_w]
                rfl
              refine pure_ (i := 4) (N := some 25) (v := ?_) (a' := ?_) #[true, true, false, false, true, false, false, false, false, false, false, false, false, false] rfl rfl (any_of HT_.out (by kernel_rfl)) (fun _ _ _ h => h) (Or.inl ⟨by rfl, ?_⟩) ?_ ?_
              rotate_left
              · intro w'
                go_simp
                with_reducible rfl
              rotate_left
              · simp only [Act.put, List.setIfInBounds_toArray, List.set_cons_zero, List.set_cons_succ, i64_w, i32_w]
                rfl
              refine pure_ (i := 5) (N := some 26) (v := ?_) (a' := ?_) #[true, true, false, false, true, true, false, false, false, false, false, false, false, false] rfl rfl (any_of HT_.out (by kernel_rfl)) (fun _ _ _ h => h) (Or.inl ⟨by rfl, ?_⟩) ?_ ?_
              rotate_left
              · intro w'
                go_simp
                with_reducible rfl
              rotate_left
              · simp only [Act.put, List.setIfInBounds_toArray, List.set_cons_zero, List.set_cons_succ, i64_w, i32_w]
                rfl
              refine pure_ (i := 8) (N := some 29) (v := ?_) (a' := ?_) #[true, true, false, false, true, true, false, false, true, false, false, false, false, false] rfl rfl (any_of HT_.out (by kernel_rfl)) (fun _ _ _ h => h) (Or.inl ⟨by rfl, ?_⟩) ?_ ?_
              rotate_left
              · intro w'
                go_simp
                with_reducible rfl
              rotate_left
              · simp only [Act.put, List.setIfInBounds_toArray, List.set_cons_zero, List.set_cons_succ, i64_w, i32_w]
                rfl
              refine pure_ (i := 9) (N := some 30) (v := ?_) (a' := ?_) #[true, true, false, false, true, true, false, false, true, true, false, false, false, false] rfl rfl (any_of HT_.out (by kernel_rfl)) (fun _ _ _ h => h) (Or.inl ⟨by rfl, ?_⟩) ?_ ?_
              rotate_left
              · intro w'
                go_simp
                with_reducible rfl
              rotate_left
              · simp only [Act.put, List.setIfInBounds_toArray, List.set_cons_zero, List.set_cons_succ, i64_w, i32_w]
                rfl
              refine take_ (i := 2) (N := some 23) (v := ?_) (a' := ?_) #[true, true, true, false, true, true, false, false, true, true, false, false, false, false] rfl rfl (take_ofW HT_.out HW_.out (by kernel_rfl)) (fun _ _ _ h => h) (Or.inl ⟨by rfl, ?_⟩) hHeld ?_ ?_
              rotate_left
              · rintro w' ⟨s0, s1, s2⟩
                go_simp
                with_reducible rfl
              rotate_left
              · simp only [Act.put, List.setIfInBounds_toArray, List.set_cons_zero, List.set_cons_succ, i64_w, i32_w]
                rfl
              refine pure_ (i := 3) (N := some 24) (v := ?_) (a' := ?_) #[true, true, true, true, true, true, false, false, true, true, false, false, false, false] rfl rfl (any_of HT_.out (by kernel_rfl)) (fun _ _ _ h => h) (Or.inl ⟨by rfl, ?_⟩) ?_ ?_
              rotate_left
              · intro w'
                go_simp
                with_reducible rfl
              rotate_left
              · simp only [Act.put, List.setIfInBounds_toArray, List.set_cons_zero, List.set_cons_succ, i64_w, i32_w]
                rfl
              refine take_ (i := 6) (N := some 27) (v := ?_) (a' := ?_) #[true, true, true, true, true, true, true, false, true, true, false, false, false, false] rfl rfl (take_ofW HT_.out HW_.out (by kernel_rfl)) (fun _ _ _ h => h) (Or.inl ⟨by rfl, ?_⟩) hHeld ?_ ?_
              rotate_left
              · rintro w' ⟨s0, s1, s2⟩
                go_simp
                with_reducible rfl
              rotate_left
              · simp only [Act.put, List.setIfInBounds_toArray, List.set_cons_zero, List.set_cons_succ, i64_w, i32_w]
                rfl
              refine pure_ (i := 7) (N := some 28) (v := ?_) (a' := ?_) #[true, true, true, true, true, true, true, true, true, true, false, false, false, false] rfl rfl (any_of HT_.out (by kernel_rfl)) (fun _ _ _ h => h) (Or.inl ⟨by rfl, ?_⟩) ?_ ?_
              rotate_left
              · intro w'
                go_simp
                with_reducible rfl
              rotate_left
              · simp only [Act.put, List.setIfInBounds_toArray, List.set_cons_zero, List.set_cons_succ, i64_w, i32_w]
                rfl
              refine take_ (i := 10) (N := some 31) (v := ?_) (a' := ?_) #[true, true, true, true, true, true, true, true, true, true, true, false, false, false] rfl rfl (take_ofW HT_.out HW_.out (by kernel_rfl)) (fun _ _ _ h => h) (Or.inl ⟨by rfl, ?_⟩) hHeld ?_ ?_
              rotate_left
              · rintro w' ⟨s0, s1, s2⟩
                go_simp
                with_reducible rfl
              rotate_left
              · simp only [Act.put, List.setIfInBounds_toArray, List.set_cons_zero, List.set_cons_succ, i64_w, i32_w]
                rfl
              refine pure_ (i := 11) (N := some 32) (v := ?_) (a' := ?_) #[true, true, true, true, true, true, true, true, true, true, true, true, false, false] rfl rfl (any_of HT_.out (by kernel_rfl)) (fun _ _ _ h => h) (Or.inl ⟨by rfl, ?_⟩) ?_ ?_
              rotate_left
              · intro w'
                go_simp
                with_reducible rfl
              rotate_left
              · simp only [Act.put, List.setIfInBounds_toArray, List.set_cons_zero, List.set_cons_succ, i64_w, i32_w]
                rfl
              refine one_ (i := 12) (N := some 33) #[true, true, true, true, true, true, true, true, true, true, true, true, true, false] rfl rfl (one_of HT_.out (by kernel_rfl)) (by decide) (fun K hK => ?_)
              refine Kd.R_lit_step (Kd.int .i64) _ 3 ?hg (N := 33) ?hd (xs := ([Int.tmod (rd t237 0) 40, Int.tmod (rd t237 1) 40, Int.tmod (rd t237 2) 40] : List Int)) (inner := [.int .i64 (Int.tmod (rd t237 0) 40), .int .i64 (Int.tmod (rd t237 1) 40), .int .i64 (Int.tmod (rd t237 2) 40)]) (ok := fun _ => True) (okp := fun _ => True) ?hr ?hp (fun _ hk => hk) trivial (Below.refl _ _) (Nat.le_refl _) (by simp) ?_; (case hd => rfl); (case hg => rfl); (case hr => first | (go_simp; done) | (go_simp; rfl)); (case hp => exact (Reps.one (show Kd.M (Kd.int .i64) _ _ _ (Int.tmod (rd t237 0) 40) [.int .i64 (Int.tmod (rd t237 0) 40)] from rfl) (Reps.one (show Kd.M (Kd.int .i64) _ _ _ (Int.tmod (rd t237 1) 40) [.int .i64 (Int.tmod (rd t237 1) 40)] from rfl) (Reps.one (show Kd.M (Kd.int .i64) _ _ _ (Int.tmod (rd t237 2) 40) [.int .i64 (Int.tmod (rd t237 2) 40)] from rfl) (Reps.none _ _)))))
              intro v244 w20 ho21 hb hg_ hnew_
              have HS0_ := (hb.cell (World.block_lt_of_cell? _ _ (hHeld.1))).trans (hHeld.1)
              have HS1_ := (hb.cell (World.block_lt_of_cell? _ _ (hHeld.2.1))).trans (hHeld.2.1)
              have HS2_ := (hb.cell (World.block_lt_of_cell? _ _ (hHeld.2.2))).trans (hHeld.2.2)
              clear hg_ hnew_
              (first | rw [← Ny243.out] at ho21 | (simp only [Int.reduceToNat] at ho21; rw [← Ny243.out] at ho21))
              have n0_ := Aside0.mk (Kd.R_elder' (by (with_reducible repeat (first | apply Kd.R_alloc | apply Kd.R_drewN | apply Kd.R_drew)); exact HO239.out) (Kd.R_base ho21) hb)
              have n1_ := Aside0.mk (Kd.R_lower (Kd.R_new' ho21 (Kd.R_lt (by (with_reducible repeat (first | apply Kd.R_alloc | apply Kd.R_drewN | apply Kd.R_drew)); exact HO239.out))) (below_size (by repeat (first | (with_reducible first | exact HB.out | apply below_alloc | apply pw_below_drewN | apply below_drew1) | exact HB.out))))
              have n2_ := Aside0.mk (below_step (by repeat (first | (with_reducible first | exact HB.out | apply below_alloc | apply pw_below_drewN | apply below_drew1) | exact HB.out)) hb)
              clear HO239
              clear HB
              have HO239 := n0_
              have HO245 := n1_
              have HB := n2_
              clear n0_ n1_ n2_
              clear hb ho21
              refine hK.out _ _ ⟨HS0_, HS1_, HS2_⟩ (fun hHeld => ?_)
              clear hK K
              refine norm_ (a' := ?_) ?_ ?_
              rotate_left
              · show Act.put _ (some 33) _ = _
                simp only [Act.put, List.setIfInBounds_toArray, List.set_cons_zero, List.set_cons_succ, i64_w, i32_w]
                rfl
              refine pure_ (i := 13) (N := some 6) (v := ?_) (a' := ?_) #[true, true, true, true, true, true, true, true, true, true, true, true, true, true] rfl rfl (any_of HT_.out (by kernel_rfl)) (fun _ _ _ h => h) (Or.inl ⟨by rfl, ?_⟩) ?_ ?_
              rotate_left
              · intro w'
                go_simp
                with_reducible rfl
              rotate_left
              · simp only [Act.put, List.setIfInBounds_toArray, List.set_cons_zero, List.set_cons_succ, i64_w, i32_w]
                rfl
              refine done_ (done_of HT_.out (by kernel_rfl)) ?_
              go_upto_region 10 with (first | ((with_reducible refine gate_callee (f := 29) rfl ?_); refine goesL_ (some 36) rfl rfl Try.func29 (by kernel_rfl) rfl #[.string t235, .string t236] rfl (by (try simp only [List.map_toArray, List.map_cons, List.map_nil]); first | done | rfl | (simp only [List.length_drop, List.length_take]; rfl)) ?_; (with_reducible refine (impl_LevelLe.calls k t235 t236 t246 _ A9.out).mono ?_); rintro e w22 ⟨rfl, hb⟩; refine ⟨_, rfl, ?_⟩; have n0_ := Aside0.mk (Kd.R_below (by (with_reducible repeat (first | apply Kd.R_alloc | apply Kd.R_drewN | apply Kd.R_drew)); exact HO239.out) hb); have n1_ := Aside0.mk (Kd.R_below (by (with_reducible repeat (first | apply Kd.R_alloc | apply Kd.R_drewN | apply Kd.R_drew)); exact HO245.out) hb); have n2_ := Aside0.mk (below_step (by repeat (first | (with_reducible first | exact HB.out | apply below_alloc | apply pw_below_drewN | apply below_drew1) | exact HB.out)) hb); clear HO239; clear HO245; clear HB; have HO239 := n0_; have HO245 := n1_; have HB := n2_; clear n0_ n1_ n2_; (try clear hb); (try clear hb2); (try clear hk); (try clear hi)) | ((with_reducible refine gate_callee (f := 37) rfl ?_); refine goesL_ (some 40) rfl rfl Try.func37 (by kernel_rfl) rfl #[.string t235, .string t236] rfl (by (try simp only [List.map_toArray, List.map_cons, List.map_nil]); first | done | rfl | (simp only [List.length_drop, List.length_take]; rfl)) ?_; (with_reducible refine (impl_LevelWitness.calls k t235 t236 t247 t248 _ A10.out).mono ?_); rintro e w23 ⟨v249, rfl, ho0, hb⟩; refine ⟨_, rfl, ?_⟩; have n0_ := Aside0.mk (Kd.R_elder' (by (with_reducible repeat (first | apply Kd.R_alloc | apply Kd.R_drewN | apply Kd.R_drew)); exact HO239.out) (Kd.R_base ho0) hb); have n1_ := Aside0.mk (Kd.R_elder' (by (with_reducible repeat (first | apply Kd.R_alloc | apply Kd.R_drewN | apply Kd.R_drew)); exact HO245.out) (Kd.R_base ho0) hb); have n2_ := Aside0.mk (Kd.R_lower (Kd.R_new' (Kd.R_new' ho0 (Kd.R_lt (by (with_reducible repeat (first | apply Kd.R_alloc | apply Kd.R_drewN | apply Kd.R_drew)); exact HO239.out))) (Kd.R_lt (by (with_reducible repeat (first | apply Kd.R_alloc | apply Kd.R_drewN | apply Kd.R_drew)); exact HO245.out))) (below_size (by repeat (first | (with_reducible first | exact HB.out | apply below_alloc | apply pw_below_drewN | apply below_drew1) | exact HB.out)))); have n3_ := Aside0.mk (below_step (by repeat (first | (with_reducible first | exact HB.out | apply below_alloc | apply pw_below_drewN | apply below_drew1) | exact HB.out)) hb); clear HO239; clear HO245; clear HB; have HO239 := n0_; have HO245 := n1_; have HO250 := n2_; have HB := n3_; clear n0_ n1_ n2_ n3_; (try clear hb); (try clear hb2); (try clear hk); (try clear hi); (try clear ho0)) | ((with_reducible refine gate_dst (N := 44) rfl ?_); (try (refine gate_guard (by rfl) ?_; dsimp only)); refine Kd.R_lit (Kd.int .i64) _ 3 ?hg (N := 44) ?hd (xs := ([] : List Int)) (inner := []) (ok := fun _ => True) (okp := fun _ => True) ?hr ?hp (fun _ hk => hk) trivial (Below.refl _ _) (Nat.le_refl _) (by simp) ?_; (case hd => rfl); (case hg => rfl); (case hr => first | (go_simp; done) | (go_simp; rfl)); (case hp => exact (Reps.none _ _)); intro v252 w24 ho25 hb hg_ hnew_; clear hg_ hnew_; (first | rw [← Ny251.out] at ho25 | (simp only [Int.reduceToNat] at ho25; rw [← Ny251.out] at ho25)); have n0_ := Aside0.mk (Kd.R_elder' (by (with_reducible repeat (first | apply Kd.R_alloc | apply Kd.R_drewN | apply Kd.R_drew)); exact HO239.out) (Kd.R_base ho25) hb); have n1_ := Aside0.mk (Kd.R_elder' (by (with_reducible repeat (first | apply Kd.R_alloc | apply Kd.R_drewN | apply Kd.R_drew)); exact HO245.out) (Kd.R_base ho25) hb); have n2_ := Aside0.mk (Kd.R_elder' (by (with_reducible repeat (first | apply Kd.R_alloc | apply Kd.R_drewN | apply Kd.R_drew)); exact HO250.out) (Kd.R_base ho25) hb); have n3_ := Aside0.mk (Kd.R_lower (Kd.R_new' (Kd.R_new' (Kd.R_new' ho25 (Kd.R_lt (by (with_reducible repeat (first | apply Kd.R_alloc | apply Kd.R_drewN | apply Kd.R_drew)); exact HO239.out))) (Kd.R_lt (by (with_reducible repeat (first | apply Kd.R_alloc | apply Kd.R_drewN | apply Kd.R_drew)); exact HO245.out))) (Kd.R_lt (by (with_reducible repeat (first | apply Kd.R_alloc | apply Kd.R_drewN | apply Kd.R_drew)); exact HO250.out))) (below_size (by repeat (first | (with_reducible first | exact HB.out | apply below_alloc | apply pw_below_drewN | apply below_drew1) | exact HB.out)))); have n4_ := Aside0.mk (below_step (by repeat (first | (with_reducible first | exact HB.out | apply below_alloc | apply pw_below_drewN | apply below_drew1) | exact HB.out)) hb); clear HO239; clear HO245; clear HO250; clear HB; have HO239 := n0_; have HO245 := n1_; have HO250 := n2_; have HO253 := n3_; have HB := n4_; clear n0_ n1_ n2_ n3_ n4_; clear hb ho25; obtain ⟨Ao27, co27, eo27⟩ := Kd.R_slice HO245.out; subst eo27) | ((with_reducible refine gate_builtin (b := .append) (xs := #[.tmp 44, .tmp 45]) rfl ?_); (try (refine gate_guard (by rfl) ?_; dsimp only)); at_builtin; refine Kd.R_append_rows (Kd.int .i64) (w0 := w) w.heap.size rfl (.tmp 44) (.tmp 45) 31 3 (.int .i64 0) 8 rfl Try.underlying31 info3 rfl (by decide) (by omega) v252 y251 y243 _ _ _ (fun k_ => some k_ ≠ (.slice (some ad240) t237.length co19 : Value).ownBlock ∧ some k_ ≠ (.slice Ao27 y243.length co27 : Value).ownBlock ∧ some k_ ≠ (v249 : Value).ownBlock) (fun _ => False) rfl rfl ?aO ?aR (fun _ _ h => h) (fun _ h => h.elim) ?aF ?aB ?aS ?aL ?_; (case aR => repeat (first | exact (Kd.R_reads' HO245.out).2.2 | (with_reducible refine Kd.C_alloc ?_ _) | (with_reducible refine Kd.C_drewN ?_ _) | (with_reducible refine Kd.C_drew ?_))); (case aB => exact (by repeat (first | (with_reducible first | exact HB.out | apply below_alloc | apply pw_below_drewN | apply below_drew1) | exact HB.out))); (case aF => exact (fun k_ hk => ⟨Kd.fresh' (Kd.R_lt (by (with_reducible repeat (first | apply Kd.R_alloc | apply Kd.R_drewN | apply Kd.R_drew)); exact HO239.out)) k_ hk, Kd.fresh' (Kd.R_lt (by (with_reducible repeat (first | apply Kd.R_alloc | apply Kd.R_drewN | apply Kd.R_drew)); exact HO245.out)) k_ hk, Kd.fresh' (Kd.R_lt (by (with_reducible repeat (first | apply Kd.R_alloc | apply Kd.R_drewN | apply Kd.R_drew)); exact HO250.out)) k_ hk⟩)); (case aO => exact (by (with_reducible repeat (first | apply Kd.R_alloc | apply Kd.R_drewN | apply Kd.R_drew)); exact Kd.R_mono HO253.out (fun _ hk => ⟨hk.1.1.2, ⟨hk.1.2, hk.2⟩⟩))); (case aS => exact (below_size (by repeat (first | (with_reducible first | exact HB.out | apply below_alloc | apply pw_below_drewN | apply below_drew1) | exact HB.out)))); (case aL => have := LMc11.out; omega); intro v255 w26 ho hb hg hat; rw [← Ny254.out] at ho; have n0_ := Aside0.mk (Kd.R_after (ok := (fun k_ => some k_ ≠ (.slice Ao27 y243.length co27 : Value).ownBlock ∧ some k_ ≠ (v249 : Value).ownBlock)) (by (with_reducible repeat (first | apply Kd.R_alloc | apply Kd.R_drewN | apply Kd.R_drew)); exact Kd.R_mono HO239.out (fun _ hk => ⟨⟨hk.1.1.2, hk.1.2⟩, hk.2⟩)) hg hat); have n1_ := Aside0.mk (Kd.R_after (ok := (fun k_ => some k_ ≠ (.slice (some ad240) t237.length co19 : Value).ownBlock ∧ some k_ ≠ (v249 : Value).ownBlock)) (by (with_reducible repeat (first | apply Kd.R_alloc | apply Kd.R_drewN | apply Kd.R_drew)); exact Kd.R_mono HO245.out (fun _ hk => ⟨⟨hk.1.1.2, hk.1.2⟩, hk.2⟩)) hg hat); have n2_ := Aside0.mk (Kd.R_after (ok := (fun k_ => some k_ ≠ (.slice (some ad240) t237.length co19 : Value).ownBlock ∧ some k_ ≠ (.slice Ao27 y243.length co27 : Value).ownBlock)) (by (with_reducible repeat (first | apply Kd.R_alloc | apply Kd.R_drewN | apply Kd.R_drew)); exact Kd.R_mono HO250.out (fun _ hk => ⟨⟨hk.1.1.2, hk.1.2⟩, hk.2⟩)) hg hat); have n3_ := Aside0.mk (hb); have n4_ := Aside0.mk (ho); clear HO239; clear HO245; clear HO250; clear HB; clear HO253; have HO239 := n0_; have HO245 := n1_; have HO250 := n2_; have HB := n3_; have HO256 := n4_; clear n0_ n1_ n2_ n3_ n4_; clear ho hb hg hat; obtain ⟨Ao28, co28, eo28⟩ := Kd.R_slice HO256.out; subst eo28) | ((with_reducible refine gate_callee (f := 26) rfl ?_); refine goesL_ (some 47) rfl rfl Try.func26 (by kernel_rfl) rfl #[.string t235, .slice Ao28 y254.length co28] rfl (by (try simp only [List.map_toArray, List.map_cons, List.map_nil]); first | done | rfl | (simp only [List.length_drop, List.length_take]; rfl)) ?_; (with_reducible refine (impl_LevelAt.calls k t235 _ _ y254 t257 _ ?side1 ?side2 A12.out).mono ?_); (case side1 => repeat (first | exact (Kd.R_reads' HO256.out).2.2 | (with_reducible refine Kd.C_alloc ?_ _) | (with_reducible refine Kd.C_drewN ?_ _) | (with_reducible refine Kd.C_drew ?_))); (case side2 => exact (Kd.R_reads' HO256.out).2.1); rintro e w29 ⟨rfl, hb⟩; refine ⟨_, rfl, ?_⟩; have n0_ := Aside0.mk (Kd.R_below (by (with_reducible repeat (first | apply Kd.R_alloc | apply Kd.R_drewN | apply Kd.R_drew)); exact HO239.out) hb); have n1_ := Aside0.mk (Kd.R_below (by (with_reducible repeat (first | apply Kd.R_alloc | apply Kd.R_drewN | apply Kd.R_drew)); exact HO245.out) hb); have n2_ := Aside0.mk (Kd.R_below (by (with_reducible repeat (first | apply Kd.R_alloc | apply Kd.R_drewN | apply Kd.R_drew)); exact HO250.out) hb); have n3_ := Aside0.mk (Kd.R_below (by (with_reducible repeat (first | apply Kd.R_alloc | apply Kd.R_drewN | apply Kd.R_drew)); exact HO256.out) hb); have n4_ := Aside0.mk (below_step (by repeat (first | (with_reducible first | exact HB.out | apply below_alloc | apply pw_below_drewN | apply below_drew1) | exact HB.out)) hb); clear HO239; clear HO245; clear HO250; clear HO256; clear HB; have HO239 := n0_; have HO245 := n1_; have HO250 := n2_; have HO256 := n3_; have HB := n4_; clear n0_ n1_ n2_ n3_ n4_; (try clear hb); (try clear hb2); (try clear hk); (try clear hi)) | ((with_reducible refine gate_dst (N := 49) rfl ?_); (try (refine gate_guard (by rfl) ?_; dsimp only)); refine Kd.R_lit (Kd.int .i64) _ 3 ?hg (N := 49) ?hd (xs := ([] : List Int)) (inner := []) (ok := fun _ => True) (okp := fun _ => True) ?hr ?hp (fun _ hk => hk) trivial (Below.refl _ _) (Nat.le_refl _) (by simp) ?_; (case hd => rfl); (case hg => rfl); (case hr => first | (go_simp; done) | (go_simp; rfl)); (case hp => exact (Reps.none _ _)); intro v259 w30 ho31 hb hg_ hnew_; clear hg_ hnew_; (first | rw [← Ny258.out] at ho31 | (simp only [Int.reduceToNat] at ho31; rw [← Ny258.out] at ho31)); have n0_ := Aside0.mk (Kd.R_elder' (by (with_reducible repeat (first | apply Kd.R_alloc | apply Kd.R_drewN | apply Kd.R_drew)); exact HO239.out) (Kd.R_base ho31) hb); have n1_ := Aside0.mk (Kd.R_elder' (by (with_reducible repeat (first | apply Kd.R_alloc | apply Kd.R_drewN | apply Kd.R_drew)); exact HO245.out) (Kd.R_base ho31) hb); have n2_ := Aside0.mk (Kd.R_elder' (by (with_reducible repeat (first | apply Kd.R_alloc | apply Kd.R_drewN | apply Kd.R_drew)); exact HO250.out) (Kd.R_base ho31) hb); have n3_ := Aside0.mk (Kd.R_elder' (by (with_reducible repeat (first | apply Kd.R_alloc | apply Kd.R_drewN | apply Kd.R_drew)); exact HO256.out) (Kd.R_base ho31) hb); have n4_ := Aside0.mk (Kd.R_lower (Kd.R_new' (Kd.R_new' (Kd.R_new' (Kd.R_new' ho31 (Kd.R_lt (by (with_reducible repeat (first | apply Kd.R_alloc | apply Kd.R_drewN | apply Kd.R_drew)); exact HO239.out))) (Kd.R_lt (by (with_reducible repeat (first | apply Kd.R_alloc | apply Kd.R_drewN | apply Kd.R_drew)); exact HO245.out))) (Kd.R_lt (by (with_reducible repeat (first | apply Kd.R_alloc | apply Kd.R_drewN | apply Kd.R_drew)); exact HO250.out))) (Kd.R_lt (by (with_reducible repeat (first | apply Kd.R_alloc | apply Kd.R_drewN | apply Kd.R_drew)); exact HO256.out))) (below_size (by repeat (first | (with_reducible first | exact HB.out | apply below_alloc | apply pw_below_drewN | apply below_drew1) | exact HB.out)))); have n5_ := Aside0.mk (below_step (by repeat (first | (with_reducible first | exact HB.out | apply below_alloc | apply pw_below_drewN | apply below_drew1) | exact HB.out)) hb); clear HO239; clear HO245; clear HO250; clear HO256; clear HB; have HO239 := n0_; have HO245 := n1_; have HO250 := n2_; have HO256 := n3_; have HO260 := n4_; have HB := n5_; clear n0_ n1_ n2_ n3_ n4_ n5_; clear hb ho31) | ((with_reducible refine gate_builtin (b := .append) (xs := #[.tmp 49, .tmp 50]) rfl ?_); (try (refine gate_guard (by rfl) ?_; dsimp only)); at_builtin; refine Kd.R_append_rows (Kd.int .i64) (w0 := w) w.heap.size rfl (.tmp 49) (.tmp 50) 31 3 (.int .i64 0) 8 rfl Try.underlying31 info3 rfl (by decide) (by omega) v259 y258 y243 _ _ _ (fun k_ => some k_ ≠ (.slice (some ad240) t237.length co19 : Value).ownBlock ∧ some k_ ≠ (.slice Ao27 y243.length co27 : Value).ownBlock ∧ some k_ ≠ (v249 : Value).ownBlock ∧ some k_ ≠ (.slice Ao28 y254.length co28 : Value).ownBlock) (fun _ => False) rfl rfl ?aO ?aR (fun _ _ h => h) (fun _ h => h.elim) ?aF ?aB ?aS ?aL ?_; (case aR => repeat (first | exact (Kd.R_reads' HO245.out).2.2 | (with_reducible refine Kd.C_alloc ?_ _) | (with_reducible refine Kd.C_drewN ?_ _) | (with_reducible refine Kd.C_drew ?_))); (case aB => exact (by repeat (first | (with_reducible first | exact HB.out | apply below_alloc | apply pw_below_drewN | apply below_drew1) | exact HB.out))); (case aF => exact (fun k_ hk => ⟨Kd.fresh' (Kd.R_lt (by (with_reducible repeat (first | apply Kd.R_alloc | apply Kd.R_drewN | apply Kd.R_drew)); exact HO239.out)) k_ hk, Kd.fresh' (Kd.R_lt (by (with_reducible repeat (first | apply Kd.R_alloc | apply Kd.R_drewN | apply Kd.R_drew)); exact HO245.out)) k_ hk, Kd.fresh' (Kd.R_lt (by (with_reducible repeat (first | apply Kd.R_alloc | apply Kd.R_drewN | apply Kd.R_drew)); exact HO250.out)) k_ hk, Kd.fresh' (Kd.R_lt (by (with_reducible repeat (first | apply Kd.R_alloc | apply Kd.R_drewN | apply Kd.R_drew)); exact HO256.out)) k_ hk⟩)); (case aO => exact (by (with_reducible repeat (first | apply Kd.R_alloc | apply Kd.R_drewN | apply Kd.R_drew)); exact Kd.R_mono HO260.out (fun _ hk => ⟨hk.1.1.1.2, ⟨hk.1.1.2, ⟨hk.1.2, hk.2⟩⟩⟩))); (case aS => exact (below_size (by repeat (first | (with_reducible first | exact HB.out | apply below_alloc | apply pw_below_drewN | apply below_drew1) | exact HB.out)))); (case aL => have := LMc13.out; omega); intro v262 w32 ho hb hg hat; rw [← Ny261.out] at ho; have n0_ := Aside0.mk (Kd.R_after (ok := (fun k_ => some k_ ≠ (.slice Ao27 y243.length co27 : Value).ownBlock ∧ some k_ ≠ (v249 : Value).ownBlock ∧ some k_ ≠ (.slice Ao28 y254.length co28 : Value).ownBlock)) (by (with_reducible repeat (first | apply Kd.R_alloc | apply Kd.R_drewN | apply Kd.R_drew)); exact Kd.R_mono HO239.out (fun _ hk => ⟨⟨hk.1.1.1, ⟨hk.1.1.2, hk.1.2⟩⟩, hk.2⟩)) hg hat); have n1_ := Aside0.mk (Kd.R_after (ok := (fun k_ => some k_ ≠ (.slice (some ad240) t237.length co19 : Value).ownBlock ∧ some k_ ≠ (v249 : Value).ownBlock ∧ some k_ ≠ (.slice Ao28 y254.length co28 : Value).ownBlock)) (by (with_reducible repeat (first | apply Kd.R_alloc | apply Kd.R_drewN | apply Kd.R_drew)); exact Kd.R_mono HO245.out (fun _ hk => ⟨⟨hk.1.1.1, ⟨hk.1.1.2, hk.1.2⟩⟩, hk.2⟩)) hg hat); have n2_ := Aside0.mk (Kd.R_after (ok := (fun k_ => some k_ ≠ (.slice (some ad240) t237.length co19 : Value).ownBlock ∧ some k_ ≠ (.slice Ao27 y243.length co27 : Value).ownBlock ∧ some k_ ≠ (.slice Ao28 y254.length co28 : Value).ownBlock)) (by (with_reducible repeat (first | apply Kd.R_alloc | apply Kd.R_drewN | apply Kd.R_drew)); exact Kd.R_mono HO250.out (fun _ hk => ⟨⟨hk.1.1.1, ⟨hk.1.1.2, hk.1.2⟩⟩, hk.2⟩)) hg hat); have n3_ := Aside0.mk (Kd.R_after (ok := (fun k_ => some k_ ≠ (.slice (some ad240) t237.length co19 : Value).ownBlock ∧ some k_ ≠ (.slice Ao27 y243.length co27 : Value).ownBlock ∧ some k_ ≠ (v249 : Value).ownBlock)) (by (with_reducible repeat (first | apply Kd.R_alloc | apply Kd.R_drewN | apply Kd.R_drew)); exact HO256.out) hg hat); have n4_ := Aside0.mk (hb); have n5_ := Aside0.mk (ho); clear HO239; clear HO245; clear HO250; clear HO256; clear HB; clear HO260; have HO239 := n0_; have HO245 := n1_; have HO250 := n2_; have HO256 := n3_; have HB := n4_; have HO263 := n5_; clear n0_ n1_ n2_ n3_ n4_ n5_; clear ho hb hg hat; obtain ⟨Ao33, co33, eo33⟩ := Kd.R_slice HO263.out; subst eo33) | ((with_reducible refine gate_callee (f := 26) rfl ?_); refine goesL_ (some 52) rfl rfl Try.func26 (by kernel_rfl) rfl #[.string t236, .slice Ao33 y261.length co33] rfl (by (try simp only [List.map_toArray, List.map_cons, List.map_nil]); first | done | rfl | (simp only [List.length_drop, List.length_take]; rfl)) ?_; (with_reducible refine (impl_LevelAt.calls k t236 _ _ y261 t264 _ ?side1 ?side2 A14.out).mono ?_); (case side1 => repeat (first | exact (Kd.R_reads' HO263.out).2.2 | (with_reducible refine Kd.C_alloc ?_ _) | (with_reducible refine Kd.C_drewN ?_ _) | (with_reducible refine Kd.C_drew ?_))); (case side2 => exact (Kd.R_reads' HO263.out).2.1); rintro e w34 ⟨rfl, hb⟩; refine ⟨_, rfl, ?_⟩; have n0_ := Aside0.mk (Kd.R_below (by (with_reducible repeat (first | apply Kd.R_alloc | apply Kd.R_drewN | apply Kd.R_drew)); exact HO239.out) hb); have n1_ := Aside0.mk (Kd.R_below (by (with_reducible repeat (first | apply Kd.R_alloc | apply Kd.R_drewN | apply Kd.R_drew)); exact HO245.out) hb); have n2_ := Aside0.mk (Kd.R_below (by (with_reducible repeat (first | apply Kd.R_alloc | apply Kd.R_drewN | apply Kd.R_drew)); exact HO250.out) hb); have n3_ := Aside0.mk (Kd.R_below (by (with_reducible repeat (first | apply Kd.R_alloc | apply Kd.R_drewN | apply Kd.R_drew)); exact HO256.out) hb); have n4_ := Aside0.mk (Kd.R_below (by (with_reducible repeat (first | apply Kd.R_alloc | apply Kd.R_drewN | apply Kd.R_drew)); exact HO263.out) hb); have n5_ := Aside0.mk (below_step (by repeat (first | (with_reducible first | exact HB.out | apply below_alloc | apply pw_below_drewN | apply below_drew1) | exact HB.out)) hb); clear HO239; clear HO245; clear HO250; clear HO256; clear HO263; clear HB; have HO239 := n0_; have HO245 := n1_; have HO250 := n2_; have HO256 := n3_; have HO263 := n4_; have HB := n5_; clear n0_ n1_ n2_ n3_ n4_ n5_; (try clear hb); (try clear hb2); (try clear hk); (try clear hi)))
              (try simp only [Act.put, List.setIfInBounds_toArray, List.set_cons_zero, List.set_cons_succ])
              go_cut [71] (fun v71 wc => ∃ (kq : Nat) (x71_14 : Bool), v71 = .bool x71_14 ∧ Aside0 (laws_FnLevelOrder.j0 kq t235 t236 t247 t248 x71_14 = some r) ∧ Aside0 (kq ≤ k) ∧ Aside0 (Kd.R (Kd.int .i64) 3 wc w.heap.size (fun _ => True) v249 t247) ∧ Aside0 (Below w.heap.size w wc))
              case first =>
                have H := HC15.out
                clear HC15
                by_cases c35 : (t246 == t248) = true
                · rw [if_pos c35] at H
                  have c35b0 : (t246 == t248) = true := c35
                  (try (have c35b1 : decide (t246 = t248) = true := by simpa using c35))
                  (try (have c35b2 : (t246 == t248) = true := by simpa using c35))
                  clear c35
                  (first | rw [c35b0] | (simp only [i64_w, i32_w]; rw [c35b0]) | skip)
                  have H' := Aside0.mk H
                  clear H
                  go_wp2
                  go_meet
                  case rel => exact ⟨_, (true), (by first | rfl | (simp; done) | (simp [*]; done)), H', ⟨by first | omega | exact Nat.le_refl _⟩, ⟨by (with_reducible repeat (first | apply Kd.R_alloc | apply Kd.R_drewN | apply Kd.R_drew)); exact Kd.R_mono HO250.out (fun _ hk => trivial)⟩, ⟨by repeat (first | (with_reducible first | exact HB.out | apply below_alloc | apply pw_below_drewN | apply below_drew1) | exact HB.out)⟩⟩
                · rw [if_neg c35] at H
                  have c35b0 : (t246 == t248) = false := by simpa using c35
                  (try (have c35b1 : decide (t246 = t248) = false := by simpa using c35))
                  (try (have c35b2 : (t246 == t248) = false := by simpa using c35))
                  (try (have c35b3 : ¬ (t246 = t248) := by simpa using c35))
                  clear c35
                  (first | rw [c35b0] | (simp only [i64_w, i32_w]; rw [c35b0]) | skip)
                  by_cases c36 : t246 = true
                  · subst c36
                    have H1 : (if t257 > t264 then (laws_FnLevelOrder.j0 k t235 t236 t247 t248 true) else (if t257 < 0 then (laws_FnLevelOrder.j0 k t235 t236 t247 t248 true) else (laws_FnLevelOrder.j0 k t235 t236 t247 t248 (decide (t264 < 0))))) = some r := by rw [if_pos rfl] at H; exact H
                    clear H
                    have H := H1
                    clear H1
                    by_cases c37 : t257 > t264
                    · rw [if_pos c37] at H
                      have c37b0 : decide (t264 < t257) = true := decide_eq_true c37
                      clear c37
                      have H' := Aside0.mk H
                      clear H
                      go_wp2
                      go_meet
                      case rel => exact ⟨_, (true), (by first | rfl | (simp; done) | (simp [*]; done)), H', ⟨by first | omega | exact Nat.le_refl _⟩, ⟨by (with_reducible repeat (first | apply Kd.R_alloc | apply Kd.R_drewN | apply Kd.R_drew)); exact Kd.R_mono HO250.out (fun _ hk => trivial)⟩, ⟨by repeat (first | (with_reducible first | exact HB.out | apply below_alloc | apply pw_below_drewN | apply below_drew1) | exact HB.out)⟩⟩
                    · rw [if_neg c37] at H
                      have c37b0 : decide (t264 < t257) = false := decide_eq_false c37
                      clear c37
                      by_cases c38 : t257 < 0
                      · rw [if_pos c38] at H
                        have c38b0 : decide (t257 < 0) = true := decide_eq_true c38
                        clear c38
                        have H' := Aside0.mk H
                        clear H
                        go_wp2
                        go_meet
                        case rel => exact ⟨_, (true), (by first | rfl | (simp; done) | (simp [*]; done)), H', ⟨by first | omega | exact Nat.le_refl _⟩, ⟨by (with_reducible repeat (first | apply Kd.R_alloc | apply Kd.R_drewN | apply Kd.R_drew)); exact Kd.R_mono HO250.out (fun _ hk => trivial)⟩, ⟨by repeat (first | (with_reducible first | exact HB.out | apply below_alloc | apply pw_below_drewN | apply below_drew1) | exact HB.out)⟩⟩
                      · rw [if_neg c38] at H
                        have c38b0 : decide (t257 < 0) = false := decide_eq_false c38
                        clear c38
                        have H' := Aside0.mk H
                        clear H
                        go_wp2
                        go_meet
                        case rel => exact ⟨_, (decide (t264 < 0)), (by first | rfl | (simp; done) | (simp [*]; done)), H', ⟨by first | omega | exact Nat.le_refl _⟩, ⟨by (with_reducible repeat (first | apply Kd.R_alloc | apply Kd.R_drewN | apply Kd.R_drew)); exact Kd.R_mono HO250.out (fun _ hk => trivial)⟩, ⟨by repeat (first | (with_reducible first | exact HB.out | apply below_alloc | apply pw_below_drewN | apply below_drew1) | exact HB.out)⟩⟩
                  · replace c36 := Bool.eq_false_iff.mpr c36
                    subst c36
                    have H1 : (if t257 < 0 then (laws_FnLevelOrder.j0 k t235 t236 t247 t248 true) else (laws_FnLevelOrder.j0 k t235 t236 t247 t248 (decide (t264 < 0)))) = some r := by rw [if_neg (show ¬ (false = true) by decide)] at H; exact H
                    clear H
                    have H := H1
                    clear H1
                    by_cases c39 : t257 < 0
                    · rw [if_pos c39] at H
                      have c39b0 : decide (t257 < 0) = true := decide_eq_true c39
                      clear c39
                      have H' := Aside0.mk H
                      clear H
                      go_wp2
                      go_meet
                      case rel => exact ⟨_, (true), (by first | rfl | (simp; done) | (simp [*]; done)), H', ⟨by first | omega | exact Nat.le_refl _⟩, ⟨by (with_reducible repeat (first | apply Kd.R_alloc | apply Kd.R_drewN | apply Kd.R_drew)); exact Kd.R_mono HO250.out (fun _ hk => trivial)⟩, ⟨by repeat (first | (with_reducible first | exact HB.out | apply below_alloc | apply pw_below_drewN | apply below_drew1) | exact HB.out)⟩⟩
                    · rw [if_neg c39] at H
                      have c39b0 : decide (t257 < 0) = false := decide_eq_false c39
                      clear c39
                      have H' := Aside0.mk H
                      clear H
                      go_wp2
                      go_meet
                      case rel => exact ⟨_, (decide (t264 < 0)), (by first | rfl | (simp; done) | (simp [*]; done)), H', ⟨by first | omega | exact Nat.le_refl _⟩, ⟨by (with_reducible repeat (first | apply Kd.R_alloc | apply Kd.R_drewN | apply Kd.R_drew)); exact Kd.R_mono HO250.out (fun _ hk => trivial)⟩, ⟨by repeat (first | (with_reducible first | exact HB.out | apply below_alloc | apply pw_below_drewN | apply below_drew1) | exact HB.out)⟩⟩
              case rest =>
                clear HC15
                try clear c1
                try clear c2
                try clear p2
                try clear q2
                try clear hx2
                try clear qi2
                try clear c3
                try clear c4
                try clear c6
                try clear c6b0
                try clear c6b1
                try clear c7
                try clear c7b0
                try clear c7b1
                try clear c8
                try clear c8b0
                try clear c8b1
                try clear c11
                try clear c13
                try clear c14
                try clear p24
                try clear q24
                try clear hx24
                try clear qi24
                try clear c26
                try clear c29
                try clear c35
                try clear c35b0
                try clear c35b1
                try clear c35b2
                try clear c36
                try clear c37
                try clear c37b0
                try clear c38
                try clear c38b0
                try clear c39
                try clear c39b0
                try clear hx240_0
                try clear hx241_0
                try clear hx242_0
                try clear p240
                try clear p241
                try clear p242
                try clear q240
                try clear q241
                try clear q242
                obtain ⟨kq, x71_14, rfl, HA, HJ14, HO_8, HB⟩ := hcut
                cases kq with
                | zero => exact absurd HA.out (by simp [laws_FnLevelOrder.j0])
                | succ kj14 =>
                  have H := HA.out
                  clear HA
                  simp only [laws_FnLevelOrder.j0] at H
                  by_cases c40 : x71_14 = true
                  · subst c40
                    have H1 : (some false) = some r := by rw [if_pos rfl] at H; exact H
                    clear H
                    have H := H1
                    clear H1
                    obtain rfl := Option.some.inj H
                    go_wp2
                    go_ret
                    exact ⟨by first | rfl | (simp [errW_none, errW_some] <;> rfl) | (simp [*, errW_none, errW_some] <;> rfl), by repeat (first | (with_reducible first | exact HB.out | apply below_alloc | apply pw_below_drewN | apply below_drew1) | exact HB.out)⟩
                  · replace c40 := Bool.eq_false_iff.mpr c40
                    subst c40
                    have H1 : (if t248 = true then ((some (([] : List Int) : List Int)).bind fun y265 => (if y265.length + t247.length < 17592186044416 then ((impl_LevelAt.f kj14 t235 (y265 ++ t247)).bind fun t271 => ((some (([] : List Int) : List Int)).bind fun y272 => (if y272.length + t247.length < 17592186044416 then ((impl_LevelAt.f kj14 t236 (y272 ++ t247)).bind fun t278 => (laws_FnLevelOrder.j1 kj14 t235 t236 (decide (t271 ≤ t278)))) else (none)))) else (none))) else (laws_FnLevelOrder.j1 kj14 t235 t236 false)) = some r := by rw [if_neg (show ¬ (false = true) by decide)] at H; exact H
                    clear H
                    have H := H1
                    clear H1
                    have HC41 := Aside0.mk H
                    clear H
                    go_upto_region 12 with (fail)
                    go_cut [85] (fun v85 wc => ∃ (kq : Nat) (x85_40 : Bool), v85 = .bool x85_40 ∧ Aside0 (laws_FnLevelOrder.j1 kq t235 t236 x85_40 = some r) ∧ Aside0 (kq ≤ kj14) ∧ Aside0 (Below w.heap.size w wc))
                    case first =>
                      have H := HC41.out
                      clear HC41
                      by_cases c42 : t248 = true
                      · subst c42
                        have H1 : ((some (([] : List Int) : List Int)).bind fun y265 => (if y265.length + t247.length < 17592186044416 then ((impl_LevelAt.f kj14 t235 (y265 ++ t247)).bind fun t271 => ((some (([] : List Int) : List Int)).bind fun y272 => (if y272.length + t247.length < 17592186044416 then ((impl_LevelAt.f kj14 t236 (y272 ++ t247)).bind fun t278 => (laws_FnLevelOrder.j1 kj14 t235 t236 (decide (t271 ≤ t278)))) else (none)))) else (none))) = some r := by rw [if_pos rfl] at H; exact H
                        clear H
                        have H := H1
                        clear H1
                        obtain ⟨y265, hy265⟩ : ∃ y_ : List Int, y_ = (([] : List Int)) := ⟨_, rfl⟩
                        replace H : (if y265.length + t247.length < 17592186044416 then ((impl_LevelAt.f kj14 t235 (y265 ++ t247)).bind fun t271 => ((some (([] : List Int) : List Int)).bind fun y272 => (if y272.length + t247.length < 17592186044416 then ((impl_LevelAt.f kj14 t236 (y272 ++ t247)).bind fun t278 => (laws_FnLevelOrder.j1 kj14 t235 t236 (decide (t271 ≤ t278)))) else (none)))) else (none)) = some r := by first | (rw [hy265]; with_reducible exact H) | (have H2_ := (Option.bind_some _ _).symm.trans H; rw [hy265]; with_reducible exact H2_) | (have H2_ := (Option.bind_some _ _).symm.trans H; with_reducible exact H2_) | with_reducible exact H | (rw [hy265]; exact H) | exact H
                        have Ny265 := Aside0.mk hy265
                        clear hy265
                        by_cases c43 : y265.length + t247.length < 17592186044416
                        · rw [if_pos c43] at H
                          have LMc43 := Aside0.mk c43
                          clear c43
                          obtain ⟨y268, hy268⟩ : ∃ y_ : List Int, y_ = (y265 ++ t247) := ⟨_, rfl⟩
                          replace H : ((impl_LevelAt.f kj14 t235 y268).bind fun t271 => ((some (([] : List Int) : List Int)).bind fun y272 => (if y272.length + t247.length < 17592186044416 then ((impl_LevelAt.f kj14 t236 (y272 ++ t247)).bind fun t278 => (laws_FnLevelOrder.j1 kj14 t235 t236 (decide (t271 ≤ t278)))) else (none)))) = some r := by first | (rw [hy268]; with_reducible exact H) | (have H2_ := (Option.bind_some _ _).symm.trans H; rw [hy268]; with_reducible exact H2_) | (have H2_ := (Option.bind_some _ _).symm.trans H; with_reducible exact H2_) | with_reducible exact H | (rw [hy268]; exact H) | exact H
                          have Ny268 := Aside0.mk hy268
                          clear hy268
                          replace H := Option.bind_eq_some_iff.mp H
                          obtain ⟨t271, A440, H⟩ := H
                          replace H : ((some (([] : List Int) : List Int)).bind fun y272 => (if y272.length + t247.length < 17592186044416 then ((impl_LevelAt.f kj14 t236 (y272 ++ t247)).bind fun t278 => (laws_FnLevelOrder.j1 kj14 t235 t236 (decide (t271 ≤ t278)))) else (none))) = some r := H
                          have A44 := Aside0.mk A440
                          clear A440
                          obtain ⟨y272, hy272⟩ : ∃ y_ : List Int, y_ = (([] : List Int)) := ⟨_, rfl⟩
                          replace H : (if y272.length + t247.length < 17592186044416 then ((impl_LevelAt.f kj14 t236 (y272 ++ t247)).bind fun t278 => (laws_FnLevelOrder.j1 kj14 t235 t236 (decide (t271 ≤ t278)))) else (none)) = some r := by first | (rw [hy272]; with_reducible exact H) | (have H2_ := (Option.bind_some _ _).symm.trans H; rw [hy272]; with_reducible exact H2_) | (have H2_ := (Option.bind_some _ _).symm.trans H; with_reducible exact H2_) | with_reducible exact H | (rw [hy272]; exact H) | exact H
                          have Ny272 := Aside0.mk hy272
                          clear hy272
                          by_cases c45 : y272.length + t247.length < 17592186044416
                          · rw [if_pos c45] at H
                            have LMc45 := Aside0.mk c45
                            clear c45
                            obtain ⟨y275, hy275⟩ : ∃ y_ : List Int, y_ = (y272 ++ t247) := ⟨_, rfl⟩
                            replace H : ((impl_LevelAt.f kj14 t236 y275).bind fun t278 => (laws_FnLevelOrder.j1 kj14 t235 t236 (decide (t271 ≤ t278)))) = some r := by first | (rw [hy275]; with_reducible exact H) | (have H2_ := (Option.bind_some _ _).symm.trans H; rw [hy275]; with_reducible exact H2_) | (have H2_ := (Option.bind_some _ _).symm.trans H; with_reducible exact H2_) | with_reducible exact H | (rw [hy275]; exact H) | exact H
                            have Ny275 := Aside0.mk hy275
                            clear hy275
                            replace H := Option.bind_eq_some_iff.mp H
                            obtain ⟨t278, A460, H⟩ := H
                            replace H : (laws_FnLevelOrder.j1 kj14 t235 t236 (decide (t271 ≤ t278))) = some r := H
                            have A46 := Aside0.mk A460
                            clear A460
                            have H' := Aside0.mk H
                            clear H
                            go_wp2_with (first | ((with_reducible refine gate_dst (N := 75) rfl ?_); (try (refine gate_guard (by rfl) ?_; dsimp only)); refine Kd.R_lit (Kd.int .i64) _ 3 ?hg (N := 75) ?hd (xs := ([] : List Int)) (inner := []) (ok := fun _ => True) (okp := fun _ => True) ?hr ?hp (fun _ hk => hk) trivial (Below.refl _ _) (Nat.le_refl _) (by simp) ?_; (case hd => rfl); (case hg => rfl); (case hr => first | (go_simp; done) | (go_simp; rfl)); (case hp => exact (Reps.none _ _)); intro v266 w47 ho48 hb hg_ hnew_; clear hg_ hnew_; (first | rw [← Ny265.out] at ho48 | (simp only [Int.reduceToNat] at ho48; rw [← Ny265.out] at ho48)); have n0_ := Aside0.mk (Kd.R_elder' (by (with_reducible repeat (first | apply Kd.R_alloc | apply Kd.R_drewN | apply Kd.R_drew)); exact HO_8.out) (Kd.R_base ho48) hb); have n1_ := Aside0.mk (Kd.R_lower (Kd.R_new' ho48 (Kd.R_lt (by (with_reducible repeat (first | apply Kd.R_alloc | apply Kd.R_drewN | apply Kd.R_drew)); exact HO_8.out))) (below_size (by repeat (first | (with_reducible first | exact HB.out | apply below_alloc | apply pw_below_drewN | apply below_drew1) | exact HB.out)))); have n2_ := Aside0.mk (below_step (by repeat (first | (with_reducible first | exact HB.out | apply below_alloc | apply pw_below_drewN | apply below_drew1) | exact HB.out)) hb); clear HO_8; clear HB; have HO_8 := n0_; have HO267 := n1_; have HB := n2_; clear n0_ n1_ n2_; clear hb ho48; obtain ⟨Ao50, co50, eo50⟩ := Kd.R_slice HO_8.out; subst eo50) | ((with_reducible refine gate_builtin (b := .append) (xs := #[.tmp 75, .tmp 76]) rfl ?_); (try (refine gate_guard (by rfl) ?_; dsimp only)); at_builtin; refine Kd.R_append_rows (Kd.int .i64) (w0 := w) w.heap.size rfl (.tmp 75) (.tmp 76) 31 3 (.int .i64 0) 8 rfl Try.underlying31 info3 rfl (by decide) (by omega) v266 y265 t247 _ _ _ (fun k_ => some k_ ≠ (.slice Ao50 t247.length co50 : Value).ownBlock) (fun _ => False) rfl rfl ?aO ?aR (fun _ _ h => h) (fun _ h => h.elim) ?aF ?aB ?aS ?aL ?_; (case aR => repeat (first | exact (Kd.R_reads' HO_8.out).2.2 | (with_reducible refine Kd.C_alloc ?_ _) | (with_reducible refine Kd.C_drewN ?_ _) | (with_reducible refine Kd.C_drew ?_))); (case aB => exact (by repeat (first | (with_reducible first | exact HB.out | apply below_alloc | apply pw_below_drewN | apply below_drew1) | exact HB.out))); (case aF => exact (fun k_ hk => Kd.fresh' (Kd.R_lt (by (with_reducible repeat (first | apply Kd.R_alloc | apply Kd.R_drewN | apply Kd.R_drew)); exact HO_8.out)) k_ hk)); (case aO => exact (by (with_reducible repeat (first | apply Kd.R_alloc | apply Kd.R_drewN | apply Kd.R_drew)); exact Kd.R_mono HO267.out (fun _ hk => hk.2))); (case aS => exact (below_size (by repeat (first | (with_reducible first | exact HB.out | apply below_alloc | apply pw_below_drewN | apply below_drew1) | exact HB.out)))); (case aL => have := LMc43.out; omega); intro v269 w49 ho hb hg hat; rw [← Ny268.out] at ho; have n0_ := Aside0.mk (Kd.R_after (ok := (fun _ => True)) (by (with_reducible repeat (first | apply Kd.R_alloc | apply Kd.R_drewN | apply Kd.R_drew)); exact HO_8.out) hg hat); have n1_ := Aside0.mk (hb); have n2_ := Aside0.mk (ho); clear HO_8; clear HB; clear HO267; have HO_8 := n0_; have HB := n1_; have HO270 := n2_; clear n0_ n1_ n2_; clear ho hb hg hat; obtain ⟨Ao51, co51, eo51⟩ := Kd.R_slice HO270.out; subst eo51) | (go_at_call 26; (with_reducible refine (impl_LevelAt.calls kj14 t235 _ _ y268 t271 _ ?side1 ?side2 A44.out).mono ?_); (case side1 => repeat (first | exact (Kd.R_reads' HO270.out).2.2 | (with_reducible refine Kd.C_alloc ?_ _) | (with_reducible refine Kd.C_drewN ?_ _) | (with_reducible refine Kd.C_drew ?_))); (case side2 => exact (Kd.R_reads' HO270.out).2.1); rintro e w52 ⟨rfl, hb⟩; have n0_ := Aside0.mk (Kd.R_below (by (with_reducible repeat (first | apply Kd.R_alloc | apply Kd.R_drewN | apply Kd.R_drew)); exact HO_8.out) hb); have n1_ := Aside0.mk (Kd.R_below (by (with_reducible repeat (first | apply Kd.R_alloc | apply Kd.R_drewN | apply Kd.R_drew)); exact HO270.out) hb); have n2_ := Aside0.mk (below_step (by repeat (first | (with_reducible first | exact HB.out | apply below_alloc | apply pw_below_drewN | apply below_drew1) | exact HB.out)) hb); clear HO_8; clear HO270; clear HB; have HO_8 := n0_; have HO270 := n1_; have HB := n2_; clear n0_ n1_ n2_; (try clear hb); (try clear hb2); (try clear hk); (try clear hi)) | ((with_reducible refine gate_dst (N := 80) rfl ?_); (try (refine gate_guard (by rfl) ?_; dsimp only)); refine Kd.R_lit (Kd.int .i64) _ 3 ?hg (N := 80) ?hd (xs := ([] : List Int)) (inner := []) (ok := fun _ => True) (okp := fun _ => True) ?hr ?hp (fun _ hk => hk) trivial (Below.refl _ _) (Nat.le_refl _) (by simp) ?_; (case hd => rfl); (case hg => rfl); (case hr => first | (go_simp; done) | (go_simp; rfl)); (case hp => exact (Reps.none _ _)); intro v273 w53 ho54 hb hg_ hnew_; clear hg_ hnew_; (first | rw [← Ny272.out] at ho54 | (simp only [Int.reduceToNat] at ho54; rw [← Ny272.out] at ho54)); have n0_ := Aside0.mk (Kd.R_elder' (by (with_reducible repeat (first | apply Kd.R_alloc | apply Kd.R_drewN | apply Kd.R_drew)); exact HO_8.out) (Kd.R_base ho54) hb); have n1_ := Aside0.mk (Kd.R_elder' (by (with_reducible repeat (first | apply Kd.R_alloc | apply Kd.R_drewN | apply Kd.R_drew)); exact HO270.out) (Kd.R_base ho54) hb); have n2_ := Aside0.mk (Kd.R_lower (Kd.R_new' (Kd.R_new' ho54 (Kd.R_lt (by (with_reducible repeat (first | apply Kd.R_alloc | apply Kd.R_drewN | apply Kd.R_drew)); exact HO_8.out))) (Kd.R_lt (by (with_reducible repeat (first | apply Kd.R_alloc | apply Kd.R_drewN | apply Kd.R_drew)); exact HO270.out))) (below_size (by repeat (first | (with_reducible first | exact HB.out | apply below_alloc | apply pw_below_drewN | apply below_drew1) | exact HB.out)))); have n3_ := Aside0.mk (below_step (by repeat (first | (with_reducible first | exact HB.out | apply below_alloc | apply pw_below_drewN | apply below_drew1) | exact HB.out)) hb); clear HO_8; clear HO270; clear HB; have HO_8 := n0_; have HO270 := n1_; have HO274 := n2_; have HB := n3_; clear n0_ n1_ n2_ n3_; clear hb ho54) | ((with_reducible refine gate_builtin (b := .append) (xs := #[.tmp 80, .tmp 81]) rfl ?_); (try (refine gate_guard (by rfl) ?_; dsimp only)); at_builtin; refine Kd.R_append_rows (Kd.int .i64) (w0 := w) w.heap.size rfl (.tmp 80) (.tmp 81) 31 3 (.int .i64 0) 8 rfl Try.underlying31 info3 rfl (by decide) (by omega) v273 y272 t247 _ _ _ (fun k_ => some k_ ≠ (.slice Ao50 t247.length co50 : Value).ownBlock ∧ some k_ ≠ (.slice Ao51 y268.length co51 : Value).ownBlock) (fun _ => False) rfl rfl ?aO ?aR (fun _ _ h => h) (fun _ h => h.elim) ?aF ?aB ?aS ?aL ?_; (case aR => repeat (first | exact (Kd.R_reads' HO_8.out).2.2 | (with_reducible refine Kd.C_alloc ?_ _) | (with_reducible refine Kd.C_drewN ?_ _) | (with_reducible refine Kd.C_drew ?_))); (case aB => exact (by repeat (first | (with_reducible first | exact HB.out | apply below_alloc | apply pw_below_drewN | apply below_drew1) | exact HB.out))); (case aF => exact (fun k_ hk => ⟨Kd.fresh' (Kd.R_lt (by (with_reducible repeat (first | apply Kd.R_alloc | apply Kd.R_drewN | apply Kd.R_drew)); exact HO_8.out)) k_ hk, Kd.fresh' (Kd.R_lt (by (with_reducible repeat (first | apply Kd.R_alloc | apply Kd.R_drewN | apply Kd.R_drew)); exact HO270.out)) k_ hk⟩)); (case aO => exact (by (with_reducible repeat (first | apply Kd.R_alloc | apply Kd.R_drewN | apply Kd.R_drew)); exact Kd.R_mono HO274.out (fun _ hk => ⟨hk.1.2, hk.2⟩))); (case aS => exact (below_size (by repeat (first | (with_reducible first | exact HB.out | apply below_alloc | apply pw_below_drewN | apply below_drew1) | exact HB.out)))); (case aL => have := LMc45.out; omega); intro v276 w55 ho hb hg hat; rw [← Ny275.out] at ho; have n0_ := Aside0.mk (Kd.R_after (ok := (fun k_ => some k_ ≠ (.slice Ao51 y268.length co51 : Value).ownBlock)) (by (with_reducible repeat (first | apply Kd.R_alloc | apply Kd.R_drewN | apply Kd.R_drew)); exact Kd.R_mono HO_8.out (fun _ hk => ⟨hk.1.2, hk.2⟩)) hg hat); have n1_ := Aside0.mk (Kd.R_after (ok := (fun k_ => some k_ ≠ (.slice Ao50 t247.length co50 : Value).ownBlock)) (by (with_reducible repeat (first | apply Kd.R_alloc | apply Kd.R_drewN | apply Kd.R_drew)); exact HO270.out) hg hat); have n2_ := Aside0.mk (hb); have n3_ := Aside0.mk (ho); clear HO_8; clear HO270; clear HB; clear HO274; have HO_8 := n0_; have HO270 := n1_; have HB := n2_; have HO277 := n3_; clear n0_ n1_ n2_ n3_; clear ho hb hg hat; obtain ⟨Ao56, co56, eo56⟩ := Kd.R_slice HO277.out; subst eo56) | (go_at_call 26; (with_reducible refine (impl_LevelAt.calls kj14 t236 _ _ y275 t278 _ ?side1 ?side2 A46.out).mono ?_); (case side1 => repeat (first | exact (Kd.R_reads' HO277.out).2.2 | (with_reducible refine Kd.C_alloc ?_ _) | (with_reducible refine Kd.C_drewN ?_ _) | (with_reducible refine Kd.C_drew ?_))); (case side2 => exact (Kd.R_reads' HO277.out).2.1); rintro e w57 ⟨rfl, hb⟩; have n0_ := Aside0.mk (Kd.R_below (by (with_reducible repeat (first | apply Kd.R_alloc | apply Kd.R_drewN | apply Kd.R_drew)); exact HO_8.out) hb); have n1_ := Aside0.mk (Kd.R_below (by (with_reducible repeat (first | apply Kd.R_alloc | apply Kd.R_drewN | apply Kd.R_drew)); exact HO270.out) hb); have n2_ := Aside0.mk (Kd.R_below (by (with_reducible repeat (first | apply Kd.R_alloc | apply Kd.R_drewN | apply Kd.R_drew)); exact HO277.out) hb); have n3_ := Aside0.mk (below_step (by repeat (first | (with_reducible first | exact HB.out | apply below_alloc | apply pw_below_drewN | apply below_drew1) | exact HB.out)) hb); clear HO_8; clear HO270; clear HO277; clear HB; have HO_8 := n0_; have HO270 := n1_; have HO277 := n2_; have HB := n3_; clear n0_ n1_ n2_ n3_; (try clear hb); (try clear hb2); (try clear hk); (try clear hi)))
                            go_meet
                            case rel => exact ⟨_, (decide (t271 ≤ t278)), (by first | rfl | (simp; done) | (simp [*]; done)), H', ⟨by have := HJ14.out; first | omega | exact Nat.le_refl _⟩, ⟨by repeat (first | (with_reducible first | exact HB.out | apply below_alloc | apply pw_below_drewN | apply below_drew1) | exact HB.out)⟩⟩
                          · rw [if_neg c45] at H
                            exact absurd H (by simp)
                        · rw [if_neg c43] at H
                          exact absurd H (by simp)
                      · replace c42 := Bool.eq_false_iff.mpr c42
                        subst c42
                        have H1 : (laws_FnLevelOrder.j1 kj14 t235 t236 false) = some r := by rw [if_neg (show ¬ (false = true) by decide)] at H; exact H
                        clear H
                        have H := H1
                        clear H1
                        have H' := Aside0.mk H
                        clear H
                        go_wp2
                        go_meet
                        case rel => exact ⟨_, (false), (by first | rfl | (simp; done) | (simp [*]; done)), H', ⟨by have := HJ14.out; first | omega | exact Nat.le_refl _⟩, ⟨by repeat (first | (with_reducible first | exact HB.out | apply below_alloc | apply pw_below_drewN | apply below_drew1) | exact HB.out)⟩⟩
                    case rest =>
                      clear HC41
                      try clear c1
                      try clear c2
                      try clear p2
                      try clear q2
                      try clear hx2
                      try clear qi2
                      try clear c3
                      try clear c4
                      try clear c6
                      try clear c6b0
                      try clear c6b1
                      try clear c7
                      try clear c7b0
                      try clear c7b1
                      try clear c8
                      try clear c8b0
                      try clear c8b1
                      try clear c11
                      try clear c13
                      try clear c14
                      try clear p24
                      try clear q24
                      try clear hx24
                      try clear qi24
                      try clear c26
                      try clear c29
                      try clear c35
                      try clear c35b0
                      try clear c35b1
                      try clear c35b2
                      try clear c36
                      try clear c37
                      try clear c37b0
                      try clear c38
                      try clear c38b0
                      try clear c39
                      try clear c39b0
                      try clear c40
                      try clear c41
                      try clear c42
                      try clear c43
                      try clear c44
                      try clear c45
                      try clear hx240_0
                      try clear hx241_0
                      try clear hx242_0
                      try clear p2
                      try clear p24
                      try clear p240
                      try clear p241
                      try clear p242
                      try clear q2
                      try clear q24
                      try clear q240
                      try clear q241
                      try clear q242
                      obtain ⟨kq, x85_40, rfl, HA, HJ40, HB⟩ := hcut
                      cases kq with
                      | zero => exact absurd HA.out (by simp [laws_FnLevelOrder.j1])
                      | succ kj40 =>
                        have H := HA.out
                        clear HA
                        simp only [laws_FnLevelOrder.j1] at H
                        by_cases c58 : x85_40 = true
                        · subst c58
                          have H1 : (some false) = some r := by rw [if_pos rfl] at H; exact H
                          clear H
                          have H := H1
                          clear H1
                          obtain rfl := Option.some.inj H
                          go_wp2
                          go_ret
                          exact ⟨by first | rfl | (simp [errW_none, errW_some] <;> rfl) | (simp [*, errW_none, errW_some] <;> rfl), by repeat (first | (with_reducible first | exact HB.out | apply below_alloc | apply pw_below_drewN | apply below_drew1) | exact HB.out)⟩
                        · replace c58 := Bool.eq_false_iff.mpr c58
                          subst c58
                          have H1 : ((impl_LevelLe.f kj40 t235 t235).bind fun t279 => (if t279 = true then (if 1 + t235.size ≤ 9223372036854775807 then (if ((⟨#[109]⟩ : ByteArray) ++ t235).size + t236.size ≤ 9223372036854775807 then ((impl_LevelLe.f kj40 t235 (((⟨#[109]⟩ : ByteArray) ++ t235) ++ t236)).bind fun t280 => (if t280 = true then (if ((⟨#[105]⟩ : ByteArray) ++ t235).size + t236.size ≤ 9223372036854775807 then ((impl_LevelLe.f kj40 (((⟨#[105]⟩ : ByteArray) ++ t235) ++ t236) (((⟨#[109]⟩ : ByteArray) ++ t235) ++ t236)).bind fun t281 => (if t281 = true then ((impl_LevelLe.f kj40 t236 (((⟨#[105]⟩ : ByteArray) ++ t235) ++ t236)).bind fun t282 => (if t282 = true then ((impl_LevelLe.f kj40 ((⟨#[43]⟩ : ByteArray) ++ t235) t235).bind fun t283 => (if t283 = true then (some false) else ((impl_LevelAbove.f kj40 ((⟨#[43]⟩ : ByteArray) ++ t235)).bind fun t284 => (if t284 = true then (if ((⟨#[105]⟩ : ByteArray) ++ t235).size + 1 ≤ 9223372036854775807 then ((impl_LevelZero.f kj40 (((⟨#[105]⟩ : ByteArray) ++ t235) ++ (⟨#[122]⟩ : ByteArray))).bind fun t285 => (if t285 = true then (if 1 + t236.size ≤ 9223372036854775807 then (if ((⟨#[109]⟩ : ByteArray) ++ t236).size + t235.size ≤ 9223372036854775807 then ((impl_LevelSame.f kj40 (((⟨#[109]⟩ : ByteArray) ++ t235) ++ t236) (((⟨#[109]⟩ : ByteArray) ++ t236) ++ t235)).bind fun t286 => (some t286)) else (none)) else (none)) else (some false))) else (none)) else (some false))))) else (some false))) else (some false))) else (none)) else (some false))) else (none)) else (none)) else (some false))) = some r := by rw [if_neg (show ¬ (false = true) by decide)] at H; exact H
                          clear H
                          have H := H1
                          clear H1
                          replace H := Option.bind_eq_some_iff.mp H
                          obtain ⟨t279, A590, H⟩ := H
                          replace H : (if t279 = true then (if 1 + t235.size ≤ 9223372036854775807 then (if ((⟨#[109]⟩ : ByteArray) ++ t235).size + t236.size ≤ 9223372036854775807 then ((impl_LevelLe.f kj40 t235 (((⟨#[109]⟩ : ByteArray) ++ t235) ++ t236)).bind fun t280 => (if t280 = true then (if ((⟨#[105]⟩ : ByteArray) ++ t235).size + t236.size ≤ 9223372036854775807 then ((impl_LevelLe.f kj40 (((⟨#[105]⟩ : ByteArray) ++ t235) ++ t236) (((⟨#[109]⟩ : ByteArray) ++ t235) ++ t236)).bind fun t281 => (if t281 = true then ((impl_LevelLe.f kj40 t236 (((⟨#[105]⟩ : ByteArray) ++ t235) ++ t236)).bind fun t282 => (if t282 = true then ((impl_LevelLe.f kj40 ((⟨#[43]⟩ : ByteArray) ++ t235) t235).bind fun t283 => (if t283 = true then (some false) else ((impl_LevelAbove.f kj40 ((⟨#[43]⟩ : ByteArray) ++ t235)).bind fun t284 => (if t284 = true then (if ((⟨#[105]⟩ : ByteArray) ++ t235).size + 1 ≤ 9223372036854775807 then ((impl_LevelZero.f kj40 (((⟨#[105]⟩ : ByteArray) ++ t235) ++ (⟨#[122]⟩ : ByteArray))).bind fun t285 => (if t285 = true then (if 1 + t236.size ≤ 9223372036854775807 then (if ((⟨#[109]⟩ : ByteArray) ++ t236).size + t235.size ≤ 9223372036854775807 then ((impl_LevelSame.f kj40 (((⟨#[109]⟩ : ByteArray) ++ t235) ++ t236) (((⟨#[109]⟩ : ByteArray) ++ t236) ++ t235)).bind fun t286 => (some t286)) else (none)) else (none)) else (some false))) else (none)) else (some false))))) else (some false))) else (some false))) else (none)) else (some false))) else (none)) else (none)) else (some false)) = some r := H
                          have A59 := Aside0.mk A590
                          clear A590
                          by_cases c60 : t279 = true
                          · subst c60
                            have H1 : (if 1 + t235.size ≤ 9223372036854775807 then (if ((⟨#[109]⟩ : ByteArray) ++ t235).size + t236.size ≤ 9223372036854775807 then ((impl_LevelLe.f kj40 t235 (((⟨#[109]⟩ : ByteArray) ++ t235) ++ t236)).bind fun t280 => (if t280 = true then (if ((⟨#[105]⟩ : ByteArray) ++ t235).size + t236.size ≤ 9223372036854775807 then ((impl_LevelLe.f kj40 (((⟨#[105]⟩ : ByteArray) ++ t235) ++ t236) (((⟨#[109]⟩ : ByteArray) ++ t235) ++ t236)).bind fun t281 => (if t281 = true then ((impl_LevelLe.f kj40 t236 (((⟨#[105]⟩ : ByteArray) ++ t235) ++ t236)).bind fun t282 => (if t282 = true then ((impl_LevelLe.f kj40 ((⟨#[43]⟩ : ByteArray) ++ t235) t235).bind fun t283 => (if t283 = true then (some false) else ((impl_LevelAbove.f kj40 ((⟨#[43]⟩ : ByteArray) ++ t235)).bind fun t284 => (if t284 = true then (if ((⟨#[105]⟩ : ByteArray) ++ t235).size + 1 ≤ 9223372036854775807 then ((impl_LevelZero.f kj40 (((⟨#[105]⟩ : ByteArray) ++ t235) ++ (⟨#[122]⟩ : ByteArray))).bind fun t285 => (if t285 = true then (if 1 + t236.size ≤ 9223372036854775807 then (if ((⟨#[109]⟩ : ByteArray) ++ t236).size + t235.size ≤ 9223372036854775807 then ((impl_LevelSame.f kj40 (((⟨#[109]⟩ : ByteArray) ++ t235) ++ t236) (((⟨#[109]⟩ : ByteArray) ++ t236) ++ t235)).bind fun t286 => (some t286)) else (none)) else (none)) else (some false))) else (none)) else (some false))))) else (some false))) else (some false))) else (none)) else (some false))) else (none)) else (none)) = some r := by rw [if_pos rfl] at H; exact H
                            clear H
                            have H := H1
                            clear H1
                            by_cases c61 : 1 + t235.size ≤ 9223372036854775807
                            · rw [if_pos c61] at H
                              have c61b0 := eq_true c61
                              have c61b1 : decide (1 + t235.size ≤ 9223372036854775807) = true := decide_eq_true c61
                              try have c61b2 : (9223372036854775807 < 1 + t235.size) = False := eq_false (Nat.not_lt.2 c61)
                              by_cases c62 : ((⟨#[109]⟩ : ByteArray) ++ t235).size + t236.size ≤ 9223372036854775807
                              · rw [if_pos c62] at H
                                have c62b0 := eq_true c62
                                have c62b1 : decide (((⟨#[109]⟩ : ByteArray) ++ t235).size + t236.size ≤ 9223372036854775807) = true := decide_eq_true c62
                                try have c62b2 : (9223372036854775807 < ((⟨#[109]⟩ : ByteArray) ++ t235).size + t236.size) = False := eq_false (Nat.not_lt.2 c62)
                                try have c62b3 : (9223372036854775807 < (1 + t235.size) + t236.size) = False := eq_false (Nat.not_lt.2 (by have h_ := c62; (repeat rw [ByteArray.size_append] at h_); exact h_))
                                replace H := Option.bind_eq_some_iff.mp H
                                obtain ⟨t280, A630, H⟩ := H
                                replace H : (if t280 = true then (if ((⟨#[105]⟩ : ByteArray) ++ t235).size + t236.size ≤ 9223372036854775807 then ((impl_LevelLe.f kj40 (((⟨#[105]⟩ : ByteArray) ++ t235) ++ t236) (((⟨#[109]⟩ : ByteArray) ++ t235) ++ t236)).bind fun t281 => (if t281 = true then ((impl_LevelLe.f kj40 t236 (((⟨#[105]⟩ : ByteArray) ++ t235) ++ t236)).bind fun t282 => (if t282 = true then ((impl_LevelLe.f kj40 ((⟨#[43]⟩ : ByteArray) ++ t235) t235).bind fun t283 => (if t283 = true then (some false) else ((impl_LevelAbove.f kj40 ((⟨#[43]⟩ : ByteArray) ++ t235)).bind fun t284 => (if t284 = true then (if ((⟨#[105]⟩ : ByteArray) ++ t235).size + 1 ≤ 9223372036854775807 then ((impl_LevelZero.f kj40 (((⟨#[105]⟩ : ByteArray) ++ t235) ++ (⟨#[122]⟩ : ByteArray))).bind fun t285 => (if t285 = true then (if 1 + t236.size ≤ 9223372036854775807 then (if ((⟨#[109]⟩ : ByteArray) ++ t236).size + t235.size ≤ 9223372036854775807 then ((impl_LevelSame.f kj40 (((⟨#[109]⟩ : ByteArray) ++ t235) ++ t236) (((⟨#[109]⟩ : ByteArray) ++ t236) ++ t235)).bind fun t286 => (some t286)) else (none)) else (none)) else (some false))) else (none)) else (some false))))) else (some false))) else (some false))) else (none)) else (some false)) = some r := H
                                have A63 := Aside0.mk A630
                                clear A630
                                by_cases c64 : t280 = true
                                · subst c64
                                  have H1 : (if ((⟨#[105]⟩ : ByteArray) ++ t235).size + t236.size ≤ 9223372036854775807 then ((impl_LevelLe.f kj40 (((⟨#[105]⟩ : ByteArray) ++ t235) ++ t236) (((⟨#[109]⟩ : ByteArray) ++ t235) ++ t236)).bind fun t281 => (if t281 = true then ((impl_LevelLe.f kj40 t236 (((⟨#[105]⟩ : ByteArray) ++ t235) ++ t236)).bind fun t282 => (if t282 = true then ((impl_LevelLe.f kj40 ((⟨#[43]⟩ : ByteArray) ++ t235) t235).bind fun t283 => (if t283 = true then (some false) else ((impl_LevelAbove.f kj40 ((⟨#[43]⟩ : ByteArray) ++ t235)).bind fun t284 => (if t284 = true then (if ((⟨#[105]⟩ : ByteArray) ++ t235).size + 1 ≤ 9223372036854775807 then ((impl_LevelZero.f kj40 (((⟨#[105]⟩ : ByteArray) ++ t235) ++ (⟨#[122]⟩ : ByteArray))).bind fun t285 => (if t285 = true then (if 1 + t236.size ≤ 9223372036854775807 then (if ((⟨#[109]⟩ : ByteArray) ++ t236).size + t235.size ≤ 9223372036854775807 then ((impl_LevelSame.f kj40 (((⟨#[109]⟩ : ByteArray) ++ t235) ++ t236) (((⟨#[109]⟩ : ByteArray) ++ t236) ++ t235)).bind fun t286 => (some t286)) else (none)) else (none)) else (some false))) else (none)) else (some false))))) else (some false))) else (some false))) else (none)) = some r := by rw [if_pos rfl] at H; exact H
                                  clear H
                                  have H := H1
                                  clear H1
                                  by_cases c65 : ((⟨#[105]⟩ : ByteArray) ++ t235).size + t236.size ≤ 9223372036854775807
                                  · rw [if_pos c65] at H
                                    have c65b0 := eq_true c65
                                    have c65b1 : decide (((⟨#[105]⟩ : ByteArray) ++ t235).size + t236.size ≤ 9223372036854775807) = true := decide_eq_true c65
                                    try have c65b2 : (9223372036854775807 < ((⟨#[105]⟩ : ByteArray) ++ t235).size + t236.size) = False := eq_false (Nat.not_lt.2 c65)
                                    try have c65b3 : (9223372036854775807 < (1 + t235.size) + t236.size) = False := eq_false (Nat.not_lt.2 (by have h_ := c65; (repeat rw [ByteArray.size_append] at h_); exact h_))
                                    replace H := Option.bind_eq_some_iff.mp H
                                    obtain ⟨t281, A660, H⟩ := H
                                    replace H : (if t281 = true then ((impl_LevelLe.f kj40 t236 (((⟨#[105]⟩ : ByteArray) ++ t235) ++ t236)).bind fun t282 => (if t282 = true then ((impl_LevelLe.f kj40 ((⟨#[43]⟩ : ByteArray) ++ t235) t235).bind fun t283 => (if t283 = true then (some false) else ((impl_LevelAbove.f kj40 ((⟨#[43]⟩ : ByteArray) ++ t235)).bind fun t284 => (if t284 = true then (if ((⟨#[105]⟩ : ByteArray) ++ t235).size + 1 ≤ 9223372036854775807 then ((impl_LevelZero.f kj40 (((⟨#[105]⟩ : ByteArray) ++ t235) ++ (⟨#[122]⟩ : ByteArray))).bind fun t285 => (if t285 = true then (if 1 + t236.size ≤ 9223372036854775807 then (if ((⟨#[109]⟩ : ByteArray) ++ t236).size + t235.size ≤ 9223372036854775807 then ((impl_LevelSame.f kj40 (((⟨#[109]⟩ : ByteArray) ++ t235) ++ t236) (((⟨#[109]⟩ : ByteArray) ++ t236) ++ t235)).bind fun t286 => (some t286)) else (none)) else (none)) else (some false))) else (none)) else (some false))))) else (some false))) else (some false)) = some r := H
                                    have A66 := Aside0.mk A660
                                    clear A660
                                    by_cases c67 : t281 = true
                                    · subst c67
                                      have H1 : ((impl_LevelLe.f kj40 t236 (((⟨#[105]⟩ : ByteArray) ++ t235) ++ t236)).bind fun t282 => (if t282 = true then ((impl_LevelLe.f kj40 ((⟨#[43]⟩ : ByteArray) ++ t235) t235).bind fun t283 => (if t283 = true then (some false) else ((impl_LevelAbove.f kj40 ((⟨#[43]⟩ : ByteArray) ++ t235)).bind fun t284 => (if t284 = true then (if ((⟨#[105]⟩ : ByteArray) ++ t235).size + 1 ≤ 9223372036854775807 then ((impl_LevelZero.f kj40 (((⟨#[105]⟩ : ByteArray) ++ t235) ++ (⟨#[122]⟩ : ByteArray))).bind fun t285 => (if t285 = true then (if 1 + t236.size ≤ 9223372036854775807 then (if ((⟨#[109]⟩ : ByteArray) ++ t236).size + t235.size ≤ 9223372036854775807 then ((impl_LevelSame.f kj40 (((⟨#[109]⟩ : ByteArray) ++ t235) ++ t236) (((⟨#[109]⟩ : ByteArray) ++ t236) ++ t235)).bind fun t286 => (some t286)) else (none)) else (none)) else (some false))) else (none)) else (some false))))) else (some false))) = some r := by rw [if_pos rfl] at H; exact H
                                      clear H
                                      have H := H1
                                      clear H1
                                      replace H := Option.bind_eq_some_iff.mp H
                                      obtain ⟨t282, A680, H⟩ := H
                                      replace H : (if t282 = true then ((impl_LevelLe.f kj40 ((⟨#[43]⟩ : ByteArray) ++ t235) t235).bind fun t283 => (if t283 = true then (some false) else ((impl_LevelAbove.f kj40 ((⟨#[43]⟩ : ByteArray) ++ t235)).bind fun t284 => (if t284 = true then (if ((⟨#[105]⟩ : ByteArray) ++ t235).size + 1 ≤ 9223372036854775807 then ((impl_LevelZero.f kj40 (((⟨#[105]⟩ : ByteArray) ++ t235) ++ (⟨#[122]⟩ : ByteArray))).bind fun t285 => (if t285 = true then (if 1 + t236.size ≤ 9223372036854775807 then (if ((⟨#[109]⟩ : ByteArray) ++ t236).size + t235.size ≤ 9223372036854775807 then ((impl_LevelSame.f kj40 (((⟨#[109]⟩ : ByteArray) ++ t235) ++ t236) (((⟨#[109]⟩ : ByteArray) ++ t236) ++ t235)).bind fun t286 => (some t286)) else (none)) else (none)) else (some false))) else (none)) else (some false))))) else (some false)) = some r := H
                                      have A68 := Aside0.mk A680
                                      clear A680
                                      by_cases c69 : t282 = true
                                      · subst c69
                                        have H1 : ((impl_LevelLe.f kj40 ((⟨#[43]⟩ : ByteArray) ++ t235) t235).bind fun t283 => (if t283 = true then (some false) else ((impl_LevelAbove.f kj40 ((⟨#[43]⟩ : ByteArray) ++ t235)).bind fun t284 => (if t284 = true then (if ((⟨#[105]⟩ : ByteArray) ++ t235).size + 1 ≤ 9223372036854775807 then ((impl_LevelZero.f kj40 (((⟨#[105]⟩ : ByteArray) ++ t235) ++ (⟨#[122]⟩ : ByteArray))).bind fun t285 => (if t285 = true then (if 1 + t236.size ≤ 9223372036854775807 then (if ((⟨#[109]⟩ : ByteArray) ++ t236).size + t235.size ≤ 9223372036854775807 then ((impl_LevelSame.f kj40 (((⟨#[109]⟩ : ByteArray) ++ t235) ++ t236) (((⟨#[109]⟩ : ByteArray) ++ t236) ++ t235)).bind fun t286 => (some t286)) else (none)) else (none)) else (some false))) else (none)) else (some false))))) = some r := by rw [if_pos rfl] at H; exact H
                                        clear H
                                        have H := H1
                                        clear H1
                                        replace H := Option.bind_eq_some_iff.mp H
                                        obtain ⟨t283, A700, H⟩ := H
                                        replace H : (if t283 = true then (some false) else ((impl_LevelAbove.f kj40 ((⟨#[43]⟩ : ByteArray) ++ t235)).bind fun t284 => (if t284 = true then (if ((⟨#[105]⟩ : ByteArray) ++ t235).size + 1 ≤ 9223372036854775807 then ((impl_LevelZero.f kj40 (((⟨#[105]⟩ : ByteArray) ++ t235) ++ (⟨#[122]⟩ : ByteArray))).bind fun t285 => (if t285 = true then (if 1 + t236.size ≤ 9223372036854775807 then (if ((⟨#[109]⟩ : ByteArray) ++ t236).size + t235.size ≤ 9223372036854775807 then ((impl_LevelSame.f kj40 (((⟨#[109]⟩ : ByteArray) ++ t235) ++ t236) (((⟨#[109]⟩ : ByteArray) ++ t236) ++ t235)).bind fun t286 => (some t286)) else (none)) else (none)) else (some false))) else (none)) else (some false)))) = some r := H
                                        have A70 := Aside0.mk A700
                                        clear A700
                                        by_cases c71 : t283 = true
                                        · subst c71
                                          have H1 : (some false) = some r := by rw [if_pos rfl] at H; exact H
                                          clear H
                                          have H := H1
                                          clear H1
                                          obtain rfl := Option.some.inj H
                                          go_wp2_with (first | ((with_reducible refine gate_callee (f := 29) rfl ?_); refine goesL_ (some 88) rfl rfl Try.func29 (by kernel_rfl) rfl #[.string t235, .string t235] rfl (by (try simp only [List.map_toArray, List.map_cons, List.map_nil]); first | done | rfl | (simp only [List.length_drop, List.length_take]; rfl)) ?_; (with_reducible refine (impl_LevelLe.calls kj40 t235 t235 true _ A59.out).mono ?_); rintro e w72 ⟨rfl, hb⟩; refine ⟨_, rfl, ?_⟩; have n0_ := Aside0.mk (below_step (by repeat (first | (with_reducible first | exact HB.out | apply below_alloc | apply pw_below_drewN | apply below_drew1) | exact HB.out)) hb); clear HB; have HB := n0_; clear n0_; (try clear hb); (try clear hb2); (try clear hk); (try clear hi)) | (go_at_call 29; (with_reducible refine (impl_LevelLe.calls kj40 t235 (((⟨#[109]⟩ : ByteArray) ++ t235) ++ t236) true _ A63.out).mono ?_); rintro e w73 ⟨rfl, hb⟩; have n0_ := Aside0.mk (below_step (by repeat (first | (with_reducible first | exact HB.out | apply below_alloc | apply pw_below_drewN | apply below_drew1) | exact HB.out)) hb); clear HB; have HB := n0_; clear n0_; (try clear hb); (try clear hb2); (try clear hk); (try clear hi)) | (go_at_call 29; (with_reducible refine (impl_LevelLe.calls kj40 (((⟨#[105]⟩ : ByteArray) ++ t235) ++ t236) (((⟨#[109]⟩ : ByteArray) ++ t235) ++ t236) true _ A66.out).mono ?_); rintro e w74 ⟨rfl, hb⟩; have n0_ := Aside0.mk (below_step (by repeat (first | (with_reducible first | exact HB.out | apply below_alloc | apply pw_below_drewN | apply below_drew1) | exact HB.out)) hb); clear HB; have HB := n0_; clear n0_; (try clear hb); (try clear hb2); (try clear hk); (try clear hi)) | (go_at_call 29; (with_reducible refine (impl_LevelLe.calls kj40 t236 (((⟨#[105]⟩ : ByteArray) ++ t235) ++ t236) true _ A68.out).mono ?_); rintro e w75 ⟨rfl, hb⟩; have n0_ := Aside0.mk (below_step (by repeat (first | (with_reducible first | exact HB.out | apply below_alloc | apply pw_below_drewN | apply below_drew1) | exact HB.out)) hb); clear HB; have HB := n0_; clear n0_; (try clear hb); (try clear hb2); (try clear hk); (try clear hi)) | (go_at_call 29; (with_reducible refine (impl_LevelLe.calls kj40 ((⟨#[43]⟩ : ByteArray) ++ t235) t235 true _ A70.out).mono ?_); rintro e w76 ⟨rfl, hb⟩; have n0_ := Aside0.mk (below_step (by repeat (first | (with_reducible first | exact HB.out | apply below_alloc | apply pw_below_drewN | apply below_drew1) | exact HB.out)) hb); clear HB; have HB := n0_; clear n0_; (try clear hb); (try clear hb2); (try clear hk); (try clear hi)))
                                          go_ret
                                          exact ⟨by first | rfl | (simp [errW_none, errW_some] <;> rfl) | (simp [*, errW_none, errW_some] <;> rfl), by repeat (first | (with_reducible first | exact HB.out | apply below_alloc | apply pw_below_drewN | apply below_drew1) | exact HB.out)⟩
                                        · replace c71 := Bool.eq_false_iff.mpr c71
                                          subst c71
                                          have H1 : ((impl_LevelAbove.f kj40 ((⟨#[43]⟩ : ByteArray) ++ t235)).bind fun t284 => (if t284 = true then (if ((⟨#[105]⟩ : ByteArray) ++ t235).size + 1 ≤ 9223372036854775807 then ((impl_LevelZero.f kj40 (((⟨#[105]⟩ : ByteArray) ++ t235) ++ (⟨#[122]⟩ : ByteArray))).bind fun t285 => (if t285 = true then (if 1 + t236.size ≤ 9223372036854775807 then (if ((⟨#[109]⟩ : ByteArray) ++ t236).size + t235.size ≤ 9223372036854775807 then ((impl_LevelSame.f kj40 (((⟨#[109]⟩ : ByteArray) ++ t235) ++ t236) (((⟨#[109]⟩ : ByteArray) ++ t236) ++ t235)).bind fun t286 => (some t286)) else (none)) else (none)) else (some false))) else (none)) else (some false))) = some r := by rw [if_neg (show ¬ (false = true) by decide)] at H; exact H
                                          clear H
                                          have H := H1
                                          clear H1
                                          replace H := Option.bind_eq_some_iff.mp H
                                          obtain ⟨t284, A770, H⟩ := H
                                          replace H : (if t284 = true then (if ((⟨#[105]⟩ : ByteArray) ++ t235).size + 1 ≤ 9223372036854775807 then ((impl_LevelZero.f kj40 (((⟨#[105]⟩ : ByteArray) ++ t235) ++ (⟨#[122]⟩ : ByteArray))).bind fun t285 => (if t285 = true then (if 1 + t236.size ≤ 9223372036854775807 then (if ((⟨#[109]⟩ : ByteArray) ++ t236).size + t235.size ≤ 9223372036854775807 then ((impl_LevelSame.f kj40 (((⟨#[109]⟩ : ByteArray) ++ t235) ++ t236) (((⟨#[109]⟩ : ByteArray) ++ t236) ++ t235)).bind fun t286 => (some t286)) else (none)) else (none)) else (some false))) else (none)) else (some false)) = some r := H
                                          have A77 := Aside0.mk A770
                                          clear A770
                                          by_cases c78 : t284 = true
                                          · subst c78
                                            have H1 : (if ((⟨#[105]⟩ : ByteArray) ++ t235).size + 1 ≤ 9223372036854775807 then ((impl_LevelZero.f kj40 (((⟨#[105]⟩ : ByteArray) ++ t235) ++ (⟨#[122]⟩ : ByteArray))).bind fun t285 => (if t285 = true then (if 1 + t236.size ≤ 9223372036854775807 then (if ((⟨#[109]⟩ : ByteArray) ++ t236).size + t235.size ≤ 9223372036854775807 then ((impl_LevelSame.f kj40 (((⟨#[109]⟩ : ByteArray) ++ t235) ++ t236) (((⟨#[109]⟩ : ByteArray) ++ t236) ++ t235)).bind fun t286 => (some t286)) else (none)) else (none)) else (some false))) else (none)) = some r := by rw [if_pos rfl] at H; exact H
                                            clear H
                                            have H := H1
                                            clear H1
                                            by_cases c79 : ((⟨#[105]⟩ : ByteArray) ++ t235).size + 1 ≤ 9223372036854775807
                                            · rw [if_pos c79] at H
                                              have c79b0 := eq_true c79
                                              have c79b1 : decide (((⟨#[105]⟩ : ByteArray) ++ t235).size + 1 ≤ 9223372036854775807) = true := decide_eq_true c79
                                              try have c79b2 : (9223372036854775807 < ((⟨#[105]⟩ : ByteArray) ++ t235).size + 1) = False := eq_false (Nat.not_lt.2 c79)
                                              try have c79b3 : (9223372036854775807 < (1 + t235.size) + 1) = False := eq_false (Nat.not_lt.2 (by have h_ := c79; (repeat rw [ByteArray.size_append] at h_); exact h_))
                                              replace H := Option.bind_eq_some_iff.mp H
                                              obtain ⟨t285, A800, H⟩ := H
                                              replace H : (if t285 = true then (if 1 + t236.size ≤ 9223372036854775807 then (if ((⟨#[109]⟩ : ByteArray) ++ t236).size + t235.size ≤ 9223372036854775807 then ((impl_LevelSame.f kj40 (((⟨#[109]⟩ : ByteArray) ++ t235) ++ t236) (((⟨#[109]⟩ : ByteArray) ++ t236) ++ t235)).bind fun t286 => (some t286)) else (none)) else (none)) else (some false)) = some r := H
                                              have A80 := Aside0.mk A800
                                              clear A800
                                              by_cases c81 : t285 = true
                                              · subst c81
                                                have H1 : (if 1 + t236.size ≤ 9223372036854775807 then (if ((⟨#[109]⟩ : ByteArray) ++ t236).size + t235.size ≤ 9223372036854775807 then ((impl_LevelSame.f kj40 (((⟨#[109]⟩ : ByteArray) ++ t235) ++ t236) (((⟨#[109]⟩ : ByteArray) ++ t236) ++ t235)).bind fun t286 => (some t286)) else (none)) else (none)) = some r := by rw [if_pos rfl] at H; exact H
                                                clear H
                                                have H := H1
                                                clear H1
                                                by_cases c82 : 1 + t236.size ≤ 9223372036854775807
                                                · rw [if_pos c82] at H
                                                  have c82b0 := eq_true c82
                                                  have c82b1 : decide (1 + t236.size ≤ 9223372036854775807) = true := decide_eq_true c82
                                                  try have c82b2 : (9223372036854775807 < 1 + t236.size) = False := eq_false (Nat.not_lt.2 c82)
                                                  by_cases c83 : ((⟨#[109]⟩ : ByteArray) ++ t236).size + t235.size ≤ 9223372036854775807
                                                  · rw [if_pos c83] at H
                                                    have c83b0 := eq_true c83
                                                    have c83b1 : decide (((⟨#[109]⟩ : ByteArray) ++ t236).size + t235.size ≤ 9223372036854775807) = true := decide_eq_true c83
                                                    try have c83b2 : (9223372036854775807 < ((⟨#[109]⟩ : ByteArray) ++ t236).size + t235.size) = False := eq_false (Nat.not_lt.2 c83)
                                                    try have c83b3 : (9223372036854775807 < (1 + t236.size) + t235.size) = False := eq_false (Nat.not_lt.2 (by have h_ := c83; (repeat rw [ByteArray.size_append] at h_); exact h_))
                                                    replace H := Option.bind_eq_some_iff.mp H
                                                    obtain ⟨t286, A840, H⟩ := H
                                                    replace H : (some t286) = some r := H
                                                    have A84 := Aside0.mk A840
                                                    clear A840
                                                    obtain rfl := Option.some.inj H
                                                    go_wp2_with (first | ((with_reducible refine gate_callee (f := 29) rfl ?_); refine goesL_ (some 88) rfl rfl Try.func29 (by kernel_rfl) rfl #[.string t235, .string t235] rfl (by (try simp only [List.map_toArray, List.map_cons, List.map_nil]); first | done | rfl | (simp only [List.length_drop, List.length_take]; rfl)) ?_; (with_reducible refine (impl_LevelLe.calls kj40 t235 t235 true _ A59.out).mono ?_); rintro e w85 ⟨rfl, hb⟩; refine ⟨_, rfl, ?_⟩; have n0_ := Aside0.mk (below_step (by repeat (first | (with_reducible first | exact HB.out | apply below_alloc | apply pw_below_drewN | apply below_drew1) | exact HB.out)) hb); clear HB; have HB := n0_; clear n0_; (try clear hb); (try clear hb2); (try clear hk); (try clear hi)) | (go_at_call 29; (with_reducible refine (impl_LevelLe.calls kj40 t235 (((⟨#[109]⟩ : ByteArray) ++ t235) ++ t236) true _ A63.out).mono ?_); rintro e w86 ⟨rfl, hb⟩; have n0_ := Aside0.mk (below_step (by repeat (first | (with_reducible first | exact HB.out | apply below_alloc | apply pw_below_drewN | apply below_drew1) | exact HB.out)) hb); clear HB; have HB := n0_; clear n0_; (try clear hb); (try clear hb2); (try clear hk); (try clear hi)) | (go_at_call 29; (with_reducible refine (impl_LevelLe.calls kj40 (((⟨#[105]⟩ : ByteArray) ++ t235) ++ t236) (((⟨#[109]⟩ : ByteArray) ++ t235) ++ t236) true _ A66.out).mono ?_); rintro e w87 ⟨rfl, hb⟩; have n0_ := Aside0.mk (below_step (by repeat (first | (with_reducible first | exact HB.out | apply below_alloc | apply pw_below_drewN | apply below_drew1) | exact HB.out)) hb); clear HB; have HB := n0_; clear n0_; (try clear hb); (try clear hb2); (try clear hk); (try clear hi)) | (go_at_call 29; (with_reducible refine (impl_LevelLe.calls kj40 t236 (((⟨#[105]⟩ : ByteArray) ++ t235) ++ t236) true _ A68.out).mono ?_); rintro e w88 ⟨rfl, hb⟩; have n0_ := Aside0.mk (below_step (by repeat (first | (with_reducible first | exact HB.out | apply below_alloc | apply pw_below_drewN | apply below_drew1) | exact HB.out)) hb); clear HB; have HB := n0_; clear n0_; (try clear hb); (try clear hb2); (try clear hk); (try clear hi)) | (go_at_call 29; (with_reducible refine (impl_LevelLe.calls kj40 ((⟨#[43]⟩ : ByteArray) ++ t235) t235 false _ A70.out).mono ?_); rintro e w89 ⟨rfl, hb⟩; have n0_ := Aside0.mk (below_step (by repeat (first | (with_reducible first | exact HB.out | apply below_alloc | apply pw_below_drewN | apply below_drew1) | exact HB.out)) hb); clear HB; have HB := n0_; clear n0_; (try clear hb); (try clear hb2); (try clear hk); (try clear hi)) | (go_at_call 31; (with_reducible refine (impl_LevelAbove.calls kj40 ((⟨#[43]⟩ : ByteArray) ++ t235) true _ A77.out).mono ?_); rintro e w90 ⟨rfl, hb⟩; have n0_ := Aside0.mk (below_step (by repeat (first | (with_reducible first | exact HB.out | apply below_alloc | apply pw_below_drewN | apply below_drew1) | exact HB.out)) hb); clear HB; have HB := n0_; clear n0_; (try clear hb); (try clear hb2); (try clear hk); (try clear hi)) | (go_at_call 35; (with_reducible refine (impl_LevelZero.calls kj40 (((⟨#[105]⟩ : ByteArray) ++ t235) ++ (⟨#[122]⟩ : ByteArray)) true _ A80.out).mono ?_); rintro e w91 ⟨rfl, hb⟩; have n0_ := Aside0.mk (below_step (by repeat (first | (with_reducible first | exact HB.out | apply below_alloc | apply pw_below_drewN | apply below_drew1) | exact HB.out)) hb); clear HB; have HB := n0_; clear n0_; (try clear hb); (try clear hb2); (try clear hk); (try clear hi)) | (go_at_call 33; (with_reducible refine (impl_LevelSame.calls kj40 (((⟨#[109]⟩ : ByteArray) ++ t235) ++ t236) (((⟨#[109]⟩ : ByteArray) ++ t236) ++ t235) t286 _ A84.out).mono ?_); rintro e w92 ⟨rfl, hb⟩; have n0_ := Aside0.mk (below_step (by repeat (first | (with_reducible first | exact HB.out | apply below_alloc | apply pw_below_drewN | apply below_drew1) | exact HB.out)) hb); clear HB; have HB := n0_; clear n0_; (try clear hb); (try clear hb2); (try clear hk); (try clear hi)))
                                                    go_ret
                                                    exact ⟨by first | rfl | (simp [errW_none, errW_some] <;> rfl) | (simp [*, errW_none, errW_some] <;> rfl), by repeat (first | (with_reducible first | exact HB.out | apply below_alloc | apply pw_below_drewN | apply below_drew1) | exact HB.out)⟩
                                                  · rw [if_neg c83] at H
                                                    exact absurd H (by simp)
                                                · rw [if_neg c82] at H
                                                  exact absurd H (by simp)
                                              · replace c81 := Bool.eq_false_iff.mpr c81
                                                subst c81
                                                have H1 : (some false) = some r := by rw [if_neg (show ¬ (false = true) by decide)] at H; exact H
                                                clear H
                                                have H := H1
                                                clear H1
                                                obtain rfl := Option.some.inj H
                                                go_wp2_with (first | ((with_reducible refine gate_callee (f := 29) rfl ?_); refine goesL_ (some 88) rfl rfl Try.func29 (by kernel_rfl) rfl #[.string t235, .string t235] rfl (by (try simp only [List.map_toArray, List.map_cons, List.map_nil]); first | done | rfl | (simp only [List.length_drop, List.length_take]; rfl)) ?_; (with_reducible refine (impl_LevelLe.calls kj40 t235 t235 true _ A59.out).mono ?_); rintro e w93 ⟨rfl, hb⟩; refine ⟨_, rfl, ?_⟩; have n0_ := Aside0.mk (below_step (by repeat (first | (with_reducible first | exact HB.out | apply below_alloc | apply pw_below_drewN | apply below_drew1) | exact HB.out)) hb); clear HB; have HB := n0_; clear n0_; (try clear hb); (try clear hb2); (try clear hk); (try clear hi)) | (go_at_call 29; (with_reducible refine (impl_LevelLe.calls kj40 t235 (((⟨#[109]⟩ : ByteArray) ++ t235) ++ t236) true _ A63.out).mono ?_); rintro e w94 ⟨rfl, hb⟩; have n0_ := Aside0.mk (below_step (by repeat (first | (with_reducible first | exact HB.out | apply below_alloc | apply pw_below_drewN | apply below_drew1) | exact HB.out)) hb); clear HB; have HB := n0_; clear n0_; (try clear hb); (try clear hb2); (try clear hk); (try clear hi)) | (go_at_call 29; (with_reducible refine (impl_LevelLe.calls kj40 (((⟨#[105]⟩ : ByteArray) ++ t235) ++ t236) (((⟨#[109]⟩ : ByteArray) ++ t235) ++ t236) true _ A66.out).mono ?_); rintro e w95 ⟨rfl, hb⟩; have n0_ := Aside0.mk (below_step (by repeat (first | (with_reducible first | exact HB.out | apply below_alloc | apply pw_below_drewN | apply below_drew1) | exact HB.out)) hb); clear HB; have HB := n0_; clear n0_; (try clear hb); (try clear hb2); (try clear hk); (try clear hi)) | (go_at_call 29; (with_reducible refine (impl_LevelLe.calls kj40 t236 (((⟨#[105]⟩ : ByteArray) ++ t235) ++ t236) true _ A68.out).mono ?_); rintro e w96 ⟨rfl, hb⟩; have n0_ := Aside0.mk (below_step (by repeat (first | (with_reducible first | exact HB.out | apply below_alloc | apply pw_below_drewN | apply below_drew1) | exact HB.out)) hb); clear HB; have HB := n0_; clear n0_; (try clear hb); (try clear hb2); (try clear hk); (try clear hi)) | (go_at_call 29; (with_reducible refine (impl_LevelLe.calls kj40 ((⟨#[43]⟩ : ByteArray) ++ t235) t235 false _ A70.out).mono ?_); rintro e w97 ⟨rfl, hb⟩; have n0_ := Aside0.mk (below_step (by repeat (first | (with_reducible first | exact HB.out | apply below_alloc | apply pw_below_drewN | apply below_drew1) | exact HB.out)) hb); clear HB; have HB := n0_; clear n0_; (try clear hb); (try clear hb2); (try clear hk); (try clear hi)) | (go_at_call 31; (with_reducible refine (impl_LevelAbove.calls kj40 ((⟨#[43]⟩ : ByteArray) ++ t235) true _ A77.out).mono ?_); rintro e w98 ⟨rfl, hb⟩; have n0_ := Aside0.mk (below_step (by repeat (first | (with_reducible first | exact HB.out | apply below_alloc | apply pw_below_drewN | apply below_drew1) | exact HB.out)) hb); clear HB; have HB := n0_; clear n0_; (try clear hb); (try clear hb2); (try clear hk); (try clear hi)) | (go_at_call 35; (with_reducible refine (impl_LevelZero.calls kj40 (((⟨#[105]⟩ : ByteArray) ++ t235) ++ (⟨#[122]⟩ : ByteArray)) false _ A80.out).mono ?_); rintro e w99 ⟨rfl, hb⟩; have n0_ := Aside0.mk (below_step (by repeat (first | (with_reducible first | exact HB.out | apply below_alloc | apply pw_below_drewN | apply below_drew1) | exact HB.out)) hb); clear HB; have HB := n0_; clear n0_; (try clear hb); (try clear hb2); (try clear hk); (try clear hi)))
                                                go_ret
                                                exact ⟨by first | rfl | (simp [errW_none, errW_some] <;> rfl) | (simp [*, errW_none, errW_some] <;> rfl), by repeat (first | (with_reducible first | exact HB.out | apply below_alloc | apply pw_below_drewN | apply below_drew1) | exact HB.out)⟩
                                            · rw [if_neg c79] at H
                                              exact absurd H (by simp)
                                          · replace c78 := Bool.eq_false_iff.mpr c78
                                            subst c78
                                            have H1 : (some false) = some r := by rw [if_neg (show ¬ (false = true) by decide)] at H; exact H
                                            clear H
                                            have H := H1
                                            clear H1
                                            obtain rfl := Option.some.inj H
                                            go_wp2_with (first | ((with_reducible refine gate_callee (f := 29) rfl ?_); refine goesL_ (some 88) rfl rfl Try.func29 (by kernel_rfl) rfl #[.string t235, .string t235] rfl (by (try simp only [List.map_toArray, List.map_cons, List.map_nil]); first | done | rfl | (simp only [List.length_drop, List.length_take]; rfl)) ?_; (with_reducible refine (impl_LevelLe.calls kj40 t235 t235 true _ A59.out).mono ?_); rintro e w100 ⟨rfl, hb⟩; refine ⟨_, rfl, ?_⟩; have n0_ := Aside0.mk (below_step (by repeat (first | (with_reducible first | exact HB.out | apply below_alloc | apply pw_below_drewN | apply below_drew1) | exact HB.out)) hb); clear HB; have HB := n0_; clear n0_; (try clear hb); (try clear hb2); (try clear hk); (try clear hi)) | (go_at_call 29; (with_reducible refine (impl_LevelLe.calls kj40 t235 (((⟨#[109]⟩ : ByteArray) ++ t235) ++ t236) true _ A63.out).mono ?_); rintro e w101 ⟨rfl, hb⟩; have n0_ := Aside0.mk (below_step (by repeat (first | (with_reducible first | exact HB.out | apply below_alloc | apply pw_below_drewN | apply below_drew1) | exact HB.out)) hb); clear HB; have HB := n0_; clear n0_; (try clear hb); (try clear hb2); (try clear hk); (try clear hi)) | (go_at_call 29; (with_reducible refine (impl_LevelLe.calls kj40 (((⟨#[105]⟩ : ByteArray) ++ t235) ++ t236) (((⟨#[109]⟩ : ByteArray) ++ t235) ++ t236) true _ A66.out).mono ?_); rintro e w102 ⟨rfl, hb⟩; have n0_ := Aside0.mk (below_step (by repeat (first | (with_reducible first | exact HB.out | apply below_alloc | apply pw_below_drewN | apply below_drew1) | exact HB.out)) hb); clear HB; have HB := n0_; clear n0_; (try clear hb); (try clear hb2); (try clear hk); (try clear hi)) | (go_at_call 29; (with_reducible refine (impl_LevelLe.calls kj40 t236 (((⟨#[105]⟩ : ByteArray) ++ t235) ++ t236) true _ A68.out).mono ?_); rintro e w103 ⟨rfl, hb⟩; have n0_ := Aside0.mk (below_step (by repeat (first | (with_reducible first | exact HB.out | apply below_alloc | apply pw_below_drewN | apply below_drew1) | exact HB.out)) hb); clear HB; have HB := n0_; clear n0_; (try clear hb); (try clear hb2); (try clear hk); (try clear hi)) | (go_at_call 29; (with_reducible refine (impl_LevelLe.calls kj40 ((⟨#[43]⟩ : ByteArray) ++ t235) t235 false _ A70.out).mono ?_); rintro e w104 ⟨rfl, hb⟩; have n0_ := Aside0.mk (below_step (by repeat (first | (with_reducible first | exact HB.out | apply below_alloc | apply pw_below_drewN | apply below_drew1) | exact HB.out)) hb); clear HB; have HB := n0_; clear n0_; (try clear hb); (try clear hb2); (try clear hk); (try clear hi)) | (go_at_call 31; (with_reducible refine (impl_LevelAbove.calls kj40 ((⟨#[43]⟩ : ByteArray) ++ t235) false _ A77.out).mono ?_); rintro e w105 ⟨rfl, hb⟩; have n0_ := Aside0.mk (below_step (by repeat (first | (with_reducible first | exact HB.out | apply below_alloc | apply pw_below_drewN | apply below_drew1) | exact HB.out)) hb); clear HB; have HB := n0_; clear n0_; (try clear hb); (try clear hb2); (try clear hk); (try clear hi)))
                                            go_ret
                                            exact ⟨by first | rfl | (simp [errW_none, errW_some] <;> rfl) | (simp [*, errW_none, errW_some] <;> rfl), by repeat (first | (with_reducible first | exact HB.out | apply below_alloc | apply pw_below_drewN | apply below_drew1) | exact HB.out)⟩
                                      · replace c69 := Bool.eq_false_iff.mpr c69
                                        subst c69
                                        have H1 : (some false) = some r := by rw [if_neg (show ¬ (false = true) by decide)] at H; exact H
                                        clear H
                                        have H := H1
                                        clear H1
                                        obtain rfl := Option.some.inj H
                                        go_wp2_with (first | ((with_reducible refine gate_callee (f := 29) rfl ?_); refine goesL_ (some 88) rfl rfl Try.func29 (by kernel_rfl) rfl #[.string t235, .string t235] rfl (by (try simp only [List.map_toArray, List.map_cons, List.map_nil]); first | done | rfl | (simp only [List.length_drop, List.length_take]; rfl)) ?_; (with_reducible refine (impl_LevelLe.calls kj40 t235 t235 true _ A59.out).mono ?_); rintro e w106 ⟨rfl, hb⟩; refine ⟨_, rfl, ?_⟩; have n0_ := Aside0.mk (below_step (by repeat (first | (with_reducible first | exact HB.out | apply below_alloc | apply pw_below_drewN | apply below_drew1) | exact HB.out)) hb); clear HB; have HB := n0_; clear n0_; (try clear hb); (try clear hb2); (try clear hk); (try clear hi)) | (go_at_call 29; (with_reducible refine (impl_LevelLe.calls kj40 t235 (((⟨#[109]⟩ : ByteArray) ++ t235) ++ t236) true _ A63.out).mono ?_); rintro e w107 ⟨rfl, hb⟩; have n0_ := Aside0.mk (below_step (by repeat (first | (with_reducible first | exact HB.out | apply below_alloc | apply pw_below_drewN | apply below_drew1) | exact HB.out)) hb); clear HB; have HB := n0_; clear n0_; (try clear hb); (try clear hb2); (try clear hk); (try clear hi)) | (go_at_call 29; (with_reducible refine (impl_LevelLe.calls kj40 (((⟨#[105]⟩ : ByteArray) ++ t235) ++ t236) (((⟨#[109]⟩ : ByteArray) ++ t235) ++ t236) true _ A66.out).mono ?_); rintro e w108 ⟨rfl, hb⟩; have n0_ := Aside0.mk (below_step (by repeat (first | (with_reducible first | exact HB.out | apply below_alloc | apply pw_below_drewN | apply below_drew1) | exact HB.out)) hb); clear HB; have HB := n0_; clear n0_; (try clear hb); (try clear hb2); (try clear hk); (try clear hi)) | (go_at_call 29; (with_reducible refine (impl_LevelLe.calls kj40 t236 (((⟨#[105]⟩ : ByteArray) ++ t235) ++ t236) false _ A68.out).mono ?_); rintro e w109 ⟨rfl, hb⟩; have n0_ := Aside0.mk (below_step (by repeat (first | (with_reducible first | exact HB.out | apply below_alloc | apply pw_below_drewN | apply below_drew1) | exact HB.out)) hb); clear HB; have HB := n0_; clear n0_; (try clear hb); (try clear hb2); (try clear hk); (try clear hi)))
                                        go_ret
                                        exact ⟨by first | rfl | (simp [errW_none, errW_some] <;> rfl) | (simp [*, errW_none, errW_some] <;> rfl), by repeat (first | (with_reducible first | exact HB.out | apply below_alloc | apply pw_below_drewN | apply below_drew1) | exact HB.out)⟩
                                    · replace c67 := Bool.eq_false_iff.mpr c67
                                      subst c67
                                      have H1 : (some false) = some r := by rw [if_neg (show ¬ (false = true) by decide)] at H; exact H
                                      clear H
                                      have H := H1
                                      clear H1
                                      obtain rfl := Option.some.inj H
                                      go_wp2_with (first | ((with_reducible refine gate_callee (f := 29) rfl ?_); refine goesL_ (some 88) rfl rfl Try.func29 (by kernel_rfl) rfl #[.string t235, .string t235] rfl (by (try simp only [List.map_toArray, List.map_cons, List.map_nil]); first | done | rfl | (simp only [List.length_drop, List.length_take]; rfl)) ?_; (with_reducible refine (impl_LevelLe.calls kj40 t235 t235 true _ A59.out).mono ?_); rintro e w110 ⟨rfl, hb⟩; refine ⟨_, rfl, ?_⟩; have n0_ := Aside0.mk (below_step (by repeat (first | (with_reducible first | exact HB.out | apply below_alloc | apply pw_below_drewN | apply below_drew1) | exact HB.out)) hb); clear HB; have HB := n0_; clear n0_; (try clear hb); (try clear hb2); (try clear hk); (try clear hi)) | (go_at_call 29; (with_reducible refine (impl_LevelLe.calls kj40 t235 (((⟨#[109]⟩ : ByteArray) ++ t235) ++ t236) true _ A63.out).mono ?_); rintro e w111 ⟨rfl, hb⟩; have n0_ := Aside0.mk (below_step (by repeat (first | (with_reducible first | exact HB.out | apply below_alloc | apply pw_below_drewN | apply below_drew1) | exact HB.out)) hb); clear HB; have HB := n0_; clear n0_; (try clear hb); (try clear hb2); (try clear hk); (try clear hi)) | (go_at_call 29; (with_reducible refine (impl_LevelLe.calls kj40 (((⟨#[105]⟩ : ByteArray) ++ t235) ++ t236) (((⟨#[109]⟩ : ByteArray) ++ t235) ++ t236) false _ A66.out).mono ?_); rintro e w112 ⟨rfl, hb⟩; have n0_ := Aside0.mk (below_step (by repeat (first | (with_reducible first | exact HB.out | apply below_alloc | apply pw_below_drewN | apply below_drew1) | exact HB.out)) hb); clear HB; have HB := n0_; clear n0_; (try clear hb); (try clear hb2); (try clear hk); (try clear hi)))
                                      go_ret
                                      exact ⟨by first | rfl | (simp [errW_none, errW_some] <;> rfl) | (simp [*, errW_none, errW_some] <;> rfl), by repeat (first | (with_reducible first | exact HB.out | apply below_alloc | apply pw_below_drewN | apply below_drew1) | exact HB.out)⟩
                                  · rw [if_neg c65] at H
                                    exact absurd H (by simp)
                                · replace c64 := Bool.eq_false_iff.mpr c64
                                  subst c64
                                  have H1 : (some false) = some r := by rw [if_neg (show ¬ (false = true) by decide)] at H; exact H
                                  clear H
                                  have H := H1
                                  clear H1
                                  obtain rfl := Option.some.inj H
                                  go_wp2_with (first | ((with_reducible refine gate_callee (f := 29) rfl ?_); refine goesL_ (some 88) rfl rfl Try.func29 (by kernel_rfl) rfl #[.string t235, .string t235] rfl (by (try simp only [List.map_toArray, List.map_cons, List.map_nil]); first | done | rfl | (simp only [List.length_drop, List.length_take]; rfl)) ?_; (with_reducible refine (impl_LevelLe.calls kj40 t235 t235 true _ A59.out).mono ?_); rintro e w113 ⟨rfl, hb⟩; refine ⟨_, rfl, ?_⟩; have n0_ := Aside0.mk (below_step (by repeat (first | (with_reducible first | exact HB.out | apply below_alloc | apply pw_below_drewN | apply below_drew1) | exact HB.out)) hb); clear HB; have HB := n0_; clear n0_; (try clear hb); (try clear hb2); (try clear hk); (try clear hi)) | (go_at_call 29; (with_reducible refine (impl_LevelLe.calls kj40 t235 (((⟨#[109]⟩ : ByteArray) ++ t235) ++ t236) false _ A63.out).mono ?_); rintro e w114 ⟨rfl, hb⟩; have n0_ := Aside0.mk (below_step (by repeat (first | (with_reducible first | exact HB.out | apply below_alloc | apply pw_below_drewN | apply below_drew1) | exact HB.out)) hb); clear HB; have HB := n0_; clear n0_; (try clear hb); (try clear hb2); (try clear hk); (try clear hi)))
                                  go_ret
                                  exact ⟨by first | rfl | (simp [errW_none, errW_some] <;> rfl) | (simp [*, errW_none, errW_some] <;> rfl), by repeat (first | (with_reducible first | exact HB.out | apply below_alloc | apply pw_below_drewN | apply below_drew1) | exact HB.out)⟩
                              · rw [if_neg c62] at H
                                exact absurd H (by simp)
                            · rw [if_neg c61] at H
                              exact absurd H (by simp)
                          · replace c60 := Bool.eq_false_iff.mpr c60
                            subst c60
                            have H1 : (some false) = some r := by rw [if_neg (show ¬ (false = true) by decide)] at H; exact H
                            clear H
                            have H := H1
                            clear H1
                            obtain rfl := Option.some.inj H
                            go_wp2_with (first | ((with_reducible refine gate_callee (f := 29) rfl ?_); refine goesL_ (some 88) rfl rfl Try.func29 (by kernel_rfl) rfl #[.string t235, .string t235] rfl (by (try simp only [List.map_toArray, List.map_cons, List.map_nil]); first | done | rfl | (simp only [List.length_drop, List.length_take]; rfl)) ?_; (with_reducible refine (impl_LevelLe.calls kj40 t235 t235 false _ A59.out).mono ?_); rintro e w115 ⟨rfl, hb⟩; refine ⟨_, rfl, ?_⟩; have n0_ := Aside0.mk (below_step (by repeat (first | (with_reducible first | exact HB.out | apply below_alloc | apply pw_below_drewN | apply below_drew1) | exact HB.out)) hb); clear HB; have HB := n0_; clear n0_; (try clear hb); (try clear hb2); (try clear hk); (try clear hi)))
                            go_ret
                            exact ⟨by first | rfl | (simp [errW_none, errW_some] <;> rfl) | (simp [*, errW_none, errW_some] <;> rfl), by repeat (first | (with_reducible first | exact HB.out | apply below_alloc | apply pw_below_drewN | apply below_drew1) | exact HB.out)⟩
            · rw [if_neg c13] at H
              exact absurd H (by simp)
          · rw [if_neg c11] at H
            exact absurd H (by simp)
        · rw [if_neg c8] at H
          exact absurd H (by simp)
      · rw [if_neg c7] at H
        exact absurd H (by simp)
    · rw [if_neg c6] at H
      exact absurd H (by simp)

/-- THE ONE PURE STATEMENT of laws_FnLevelOrder: yours. -/
def laws_FnLevelOrder.Pure : Prop := ∀ (l0 : List Int), l0.length ≤ maxLen → l0.length * 1 ≤ 140737488351232 → (∀ x ∈ l0, (Lit.int .u8 x).wf = true) → ∃ k, laws_FnLevelOrder.f k l0 = some true
theorem laws_FnLevelOrder.walk (P : laws_FnLevelOrder.Pure) (a0 : Option Addr) (len0 cap0 : Nat) (z0 : List Int) (w : World) (w0 : (a0 = none ∧ len0 = 0 ∧ cap0 = 0 ∧ z0 = []) ∨ ∃ x, a0 = some x ∧ len0 ≤ cap0 ∧ cap0 ≤ maxLen ∧ z0.length = cap0 ∧ (∀ i, i < z0.length → w.cell? (x.add i) = some (.int .u8 (z0.getD i 0))) ∧ ∀ n ∈ z0, (Lit.int .u8 n).wf = true) (y0 : len0 * 1 ≤ 140737488351232) :
    Calls Try.prog 14 #[.slice a0 len0 cap0] w fun e w' => e = .returned (.bool true) ∧ Below w.heap.size w w' := by
  obtain ⟨l0, rfl, hr0, hm0, hw0, hc0⟩ := ReadsInt.ofRowC w0
  obtain ⟨k, h⟩ := P l0 hm0 y0 hw0
  refine (laws_FnLevelOrder.calls k _ _ l0 true w (Kd.C_of_reads (d := (0 : Int)) (h1 := fun _ => rfl) hr0) hc0 h).mono ?_
  rintro e w' ⟨rfl, hd⟩
  exact ⟨rfl, hd⟩

end Go.Proofs.Ytjnfehajgogjiaa.Q
