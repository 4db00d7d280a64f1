/- Printed for this claim by a program of this session (wip/tools/xprint.py) out of the translation: what each Go function comes to, and that it comes to it. Not trusted: Lean checks it. -/
import Derived.Test.YtjnfehajgogjiaaQ0
import Derived.Test.YtjnfehajgogjiaaQ1
import Derived.Test.YtjnfehajgogjiaaQ2
import Derived.Test.YtjnfehajgogjiaaQ3
import Derived.Test.YtjnfehajgogjiaaQ6
namespace Go.Proofs.Ytjnfehajgogjiaa.Q
open Go.RowKit Go.Proofs.YtjnfehajgogjiaaW.PrintWords Go.Proofs.YtjnfehajgogjiaaW.PrintLast Go.Proofs.YtjnfehajgogjiaaW.PrintMore
attribute [local go_sem] max2_int min2_int max_two min_two max_three min_three max_four min_four   -- for this text's walks alone
set_option linter.unusedVariables false
set_option linter.unusedSimpArgs false

/-! ### laws_FnLevels: function 12 -/
def laws_FnLevels.f (k : Nat) (l0 : List Int) : Option (Bool) := (laws_big.f l0).bind fun t193 => (if t193 = true then (some true) else ((spec_DrawLevels.f k l0).bind fun bt194 => ((impl_LevelPut.f k bt194.1 (([(⟨#[117, 48]⟩ : ByteArray), (⟨#[117, 49]⟩ : ByteArray), (⟨#[117, 50]⟩ : ByteArray)] : List ByteArray))).bind fun bt199 => (if 1 + bt194.1.size ≤ 9223372036854775807 then ((impl_LevelPut.f k ((⟨#[43]⟩ : ByteArray) ++ bt194.1) (([(⟨#[122]⟩ : ByteArray), (⟨#[122]⟩ : ByteArray), (⟨#[122]⟩ : ByteArray)] : List ByteArray))).bind fun bt204 => (if bt199.2 = true then (if bt204.2 = true then (if bt199.1.toList = bt194.1.toList then ((impl_LevelOk.f k bt194.1).bind fun t206 => (if t206 = true then (if bt194.1.size + bt194.2.size ≤ 9223372036854775807 then ((impl_LevelEnd.f k (bt194.1 ++ bt194.2) 0).bind fun t207 => (if t207 = (bt194.1.size : Int) then ((impl_LevelEnd.f k (bt194.1 ++ bt194.2) (bt194.1.size : Int)).bind fun t208 => (if t208 = (wrap64 ((bt194.1.size : Int) + (bt194.2.size : Int))) then (if ((⟨#[109]⟩ : ByteArray) ++ bt194.1).size + bt194.2.size ≤ 9223372036854775807 then ((impl_LevelUps.f k (((⟨#[109]⟩ : ByteArray) ++ bt194.1) ++ bt194.2)).bind fun t209 => ((impl_LevelUps.f k bt194.1).bind fun t210 => ((impl_LevelUps.f k bt194.2).bind fun t211 => (if t209 = (wrap64 (t210 + t211)) then ((impl_LevelParams.f k bt204.1).bind fun t212 => (if t212 = 0 then ((impl_LevelUps.f k bt204.1).bind fun t213 => (if t213 = (wrap64 (t210 + 1)) then ((impl_LevelParams.f k bt194.1).bind fun t214 => (if t214 ≤ 3 then ((impl_LevelOk.f k (bt194.1 ++ bt194.2)).bind fun t215 => (some (!t215))) else (none))) else (none))) else (none))) else (none))))) else (none)) else (none))) else (none))) else (none)) else (none))) else (none)) else (none)) else (none))) else (none)))))
theorem laws_FnLevels.mono : ∀ a0 k, LeO (laws_FnLevels.f k a0) (laws_FnLevels.f (k + 1) a0) := by
  intro a0 k
  unfold laws_FnLevels.f
  repeat' first
      | (with_reducible exact impl_LevelEnd.mono _ _ _)
      | (with_reducible exact impl_LevelOk.mono _ _)
      | (with_reducible exact impl_LevelParams.mono _ _)
      | (with_reducible exact impl_LevelPut.mono _ _ _)
      | (with_reducible exact impl_LevelUps.mono _ _)
      | (with_reducible exact spec_DrawLevels.mono _ _)
      | (with_reducible exact LeO.refl _)
      | (with_reducible exact LeO.none _)
      | (with_reducible refine LeO.ite ?_ ?_)
      | (with_reducible refine LeO.bind ?_ (fun _ => ?_))
      | exact impl_LevelEnd.mono _ _ _
      | exact impl_LevelOk.mono _ _
      | exact impl_LevelParams.mono _ _
      | exact impl_LevelPut.mono _ _ _
      | exact impl_LevelUps.mono _ _
      | exact spec_DrawLevels.mono _ _
      | exact LeO.none _
      | refine LeO.ite ?_ ?_
      | refine LeO.bind ?_ (fun _ => ?_)
set_option maxHeartbeats 8000000 in
set_option maxRecDepth 100000 in
theorem laws_FnLevels.calls (k : Nat) (A0 : Option Addr) (c0 : Nat) (l0 : List Int) (r : Bool) (w : World) (hr0 : Kd.C (Kd.int .u8) w A0 l0.length l0) (hc0 : l0.length ≤ c0) (h : laws_FnLevels.f k l0 = some r) :
    Calls Try.prog 12 #[.slice A0 l0.length c0] w fun e w' => e = .returned (.bool r) ∧ Below w.heap.size w w' := by
  have HR0 := Aside0.mk hr0
  have HC0 := Aside0.mk hc0
  clear hr0 hc0
  have HB := Aside0.mk (Below.refl w.heap.size w)
  have H : ((laws_big.f l0).bind fun t193 => (if t193 = true then (some true) else ((spec_DrawLevels.f k l0).bind fun bt194 => ((impl_LevelPut.f k bt194.1 (([(⟨#[117, 48]⟩ : ByteArray), (⟨#[117, 49]⟩ : ByteArray), (⟨#[117, 50]⟩ : ByteArray)] : List ByteArray))).bind fun bt199 => (if 1 + bt194.1.size ≤ 9223372036854775807 then ((impl_LevelPut.f k ((⟨#[43]⟩ : ByteArray) ++ bt194.1) (([(⟨#[122]⟩ : ByteArray), (⟨#[122]⟩ : ByteArray), (⟨#[122]⟩ : ByteArray)] : List ByteArray))).bind fun bt204 => (if bt199.2 = true then (if bt204.2 = true then (if bt199.1.toList = bt194.1.toList then ((impl_LevelOk.f k bt194.1).bind fun t206 => (if t206 = true then (if bt194.1.size + bt194.2.size ≤ 9223372036854775807 then ((impl_LevelEnd.f k (bt194.1 ++ bt194.2) 0).bind fun t207 => (if t207 = (bt194.1.size : Int) then ((impl_LevelEnd.f k (bt194.1 ++ bt194.2) (bt194.1.size : Int)).bind fun t208 => (if t208 = (wrap64 ((bt194.1.size : Int) + (bt194.2.size : Int))) then (if ((⟨#[109]⟩ : ByteArray) ++ bt194.1).size + bt194.2.size ≤ 9223372036854775807 then ((impl_LevelUps.f k (((⟨#[109]⟩ : ByteArray) ++ bt194.1) ++ bt194.2)).bind fun t209 => ((impl_LevelUps.f k bt194.1).bind fun t210 => ((impl_LevelUps.f k bt194.2).bind fun t211 => (if t209 = (wrap64 (t210 + t211)) then ((impl_LevelParams.f k bt204.1).bind fun t212 => (if t212 = 0 then ((impl_LevelUps.f k bt204.1).bind fun t213 => (if t213 = (wrap64 (t210 + 1)) then ((impl_LevelParams.f k bt194.1).bind fun t214 => (if t214 ≤ 3 then ((impl_LevelOk.f k (bt194.1 ++ bt194.2)).bind fun t215 => (some (!t215))) else (none))) else (none))) else (none))) else (none))))) else (none)) else (none))) else (none))) else (none)) else (none))) else (none)) else (none)) else (none))) else (none)))))) = some r := h
  clear h
  replace H := Option.bind_eq_some_iff.mp H
  obtain ⟨t193, A20, H⟩ := H
  replace H : (if t193 = true then (some true) else ((spec_DrawLevels.f k l0).bind fun bt194 => ((impl_LevelPut.f k bt194.1 (([(⟨#[117, 48]⟩ : ByteArray), (⟨#[117, 49]⟩ : ByteArray), (⟨#[117, 50]⟩ : ByteArray)] : List ByteArray))).bind fun bt199 => (if 1 + bt194.1.size ≤ 9223372036854775807 then ((impl_LevelPut.f k ((⟨#[43]⟩ : ByteArray) ++ bt194.1) (([(⟨#[122]⟩ : ByteArray), (⟨#[122]⟩ : ByteArray), (⟨#[122]⟩ : ByteArray)] : List ByteArray))).bind fun bt204 => (if bt199.2 = true then (if bt204.2 = true then (if bt199.1.toList = bt194.1.toList then ((impl_LevelOk.f k bt194.1).bind fun t206 => (if t206 = true then (if bt194.1.size + bt194.2.size ≤ 9223372036854775807 then ((impl_LevelEnd.f k (bt194.1 ++ bt194.2) 0).bind fun t207 => (if t207 = (bt194.1.size : Int) then ((impl_LevelEnd.f k (bt194.1 ++ bt194.2) (bt194.1.size : Int)).bind fun t208 => (if t208 = (wrap64 ((bt194.1.size : Int) + (bt194.2.size : Int))) then (if ((⟨#[109]⟩ : ByteArray) ++ bt194.1).size + bt194.2.size ≤ 9223372036854775807 then ((impl_LevelUps.f k (((⟨#[109]⟩ : ByteArray) ++ bt194.1) ++ bt194.2)).bind fun t209 => ((impl_LevelUps.f k bt194.1).bind fun t210 => ((impl_LevelUps.f k bt194.2).bind fun t211 => (if t209 = (wrap64 (t210 + t211)) then ((impl_LevelParams.f k bt204.1).bind fun t212 => (if t212 = 0 then ((impl_LevelUps.f k bt204.1).bind fun t213 => (if t213 = (wrap64 (t210 + 1)) then ((impl_LevelParams.f k bt194.1).bind fun t214 => (if t214 ≤ 3 then ((impl_LevelOk.f k (bt194.1 ++ bt194.2)).bind fun t215 => (some (!t215))) else (none))) else (none))) else (none))) else (none))))) else (none)) else (none))) else (none))) else (none)) else (none))) else (none)) else (none)) else (none))) else (none))))) = some r := H
  have A2 := Aside0.mk A20
  clear A20
  by_cases c3 : t193 = true
  · subst c3
    have H1 : (some true) = some r := by rw [if_pos rfl] at H; exact H
    clear H
    have H := H1
    clear H1
    obtain rfl := Option.some.inj H
    go_enter Try.func12, Try.ntmps12
    go_wp2_with (first | ((with_reducible refine gate_callee (f := 40) rfl ?_); refine goesL_ (some 10) rfl rfl Try.func40 (by kernel_rfl) rfl #[.slice A0 l0.length c0] rfl (by (try simp only [List.map_toArray, List.map_cons, List.map_nil]); first | done | rfl | (simp only [List.length_drop, List.length_take]; rfl)) ?_; (with_reducible refine (laws_big.calls _ _ l0 true _ ?side1 ?side2 A2.out).mono ?_); (case side1 => repeat (first | exact HR0.out | (with_reducible refine Kd.C_alloc ?_ _) | (with_reducible refine Kd.C_drewN ?_ _) | (with_reducible refine Kd.C_drew ?_))); (case side2 => exact HC0.out); rintro e w' ⟨rfl, ⟨nd, rfl⟩⟩; refine ⟨_, rfl, ?_⟩))
    go_ret
    exact ⟨by first | rfl | (simp [errW_none, errW_some] <;> rfl) | (simp [*, errW_none, errW_some] <;> rfl), by repeat (first | (with_reducible first | exact HB.out | apply below_alloc | apply pw_below_drewN | apply below_drew1) | exact HB.out)⟩
  · replace c3 := Bool.eq_false_iff.mpr c3
    subst c3
    have H1 : ((spec_DrawLevels.f k l0).bind fun bt194 => ((impl_LevelPut.f k bt194.1 (([(⟨#[117, 48]⟩ : ByteArray), (⟨#[117, 49]⟩ : ByteArray), (⟨#[117, 50]⟩ : ByteArray)] : List ByteArray))).bind fun bt199 => (if 1 + bt194.1.size ≤ 9223372036854775807 then ((impl_LevelPut.f k ((⟨#[43]⟩ : ByteArray) ++ bt194.1) (([(⟨#[122]⟩ : ByteArray), (⟨#[122]⟩ : ByteArray), (⟨#[122]⟩ : ByteArray)] : List ByteArray))).bind fun bt204 => (if bt199.2 = true then (if bt204.2 = true then (if bt199.1.toList = bt194.1.toList then ((impl_LevelOk.f k bt194.1).bind fun t206 => (if t206 = true then (if bt194.1.size + bt194.2.size ≤ 9223372036854775807 then ((impl_LevelEnd.f k (bt194.1 ++ bt194.2) 0).bind fun t207 => (if t207 = (bt194.1.size : Int) then ((impl_LevelEnd.f k (bt194.1 ++ bt194.2) (bt194.1.size : Int)).bind fun t208 => (if t208 = (wrap64 ((bt194.1.size : Int) + (bt194.2.size : Int))) then (if ((⟨#[109]⟩ : ByteArray) ++ bt194.1).size + bt194.2.size ≤ 9223372036854775807 then ((impl_LevelUps.f k (((⟨#[109]⟩ : ByteArray) ++ bt194.1) ++ bt194.2)).bind fun t209 => ((impl_LevelUps.f k bt194.1).bind fun t210 => ((impl_LevelUps.f k bt194.2).bind fun t211 => (if t209 = (wrap64 (t210 + t211)) then ((impl_LevelParams.f k bt204.1).bind fun t212 => (if t212 = 0 then ((impl_LevelUps.f k bt204.1).bind fun t213 => (if t213 = (wrap64 (t210 + 1)) then ((impl_LevelParams.f k bt194.1).bind fun t214 => (if t214 ≤ 3 then ((impl_LevelOk.f k (bt194.1 ++ bt194.2)).bind fun t215 => (some (!t215))) else (none))) else (none))) else (none))) else (none))))) else (none)) else (none))) else (none))) else (none)) else (none))) else (none)) else (none)) else (none))) else (none)))) = some r := by rw [if_neg (show ¬ (false = true) by decide)] at H; exact H
    clear H
    have H := H1
    clear H1
    replace H := Option.bind_eq_some_iff.mp H
    obtain ⟨⟨t194, t195⟩, A40, H⟩ := H
    replace H : ((impl_LevelPut.f k t194 (([(⟨#[117, 48]⟩ : ByteArray), (⟨#[117, 49]⟩ : ByteArray), (⟨#[117, 50]⟩ : ByteArray)] : List ByteArray))).bind fun bt199 => (if 1 + t194.size ≤ 9223372036854775807 then ((impl_LevelPut.f k ((⟨#[43]⟩ : ByteArray) ++ t194) (([(⟨#[122]⟩ : ByteArray), (⟨#[122]⟩ : ByteArray), (⟨#[122]⟩ : ByteArray)] : List ByteArray))).bind fun bt204 => (if bt199.2 = true then (if bt204.2 = true then (if bt199.1.toList = t194.toList then ((impl_LevelOk.f k t194).bind fun t206 => (if t206 = true then (if t194.size + t195.size ≤ 9223372036854775807 then ((impl_LevelEnd.f k (t194 ++ t195) 0).bind fun t207 => (if t207 = (t194.size : Int) then ((impl_LevelEnd.f k (t194 ++ t195) (t194.size : Int)).bind fun t208 => (if t208 = (wrap64 ((t194.size : Int) + (t195.size : Int))) then (if ((⟨#[109]⟩ : ByteArray) ++ t194).size + t195.size ≤ 9223372036854775807 then ((impl_LevelUps.f k (((⟨#[109]⟩ : ByteArray) ++ t194) ++ t195)).bind fun t209 => ((impl_LevelUps.f k t194).bind fun t210 => ((impl_LevelUps.f k t195).bind fun t211 => (if t209 = (wrap64 (t210 + t211)) then ((impl_LevelParams.f k bt204.1).bind fun t212 => (if t212 = 0 then ((impl_LevelUps.f k bt204.1).bind fun t213 => (if t213 = (wrap64 (t210 + 1)) then ((impl_LevelParams.f k t194).bind fun t214 => (if t214 ≤ 3 then ((impl_LevelOk.f k (t194 ++ t195)).bind fun t215 => (some (!t215))) else (none))) else (none))) else (none))) else (none))))) else (none)) else (none))) else (none))) else (none)) else (none))) else (none)) else (none)) else (none))) else (none))) = some r := H
    have A4 := Aside0.mk A40
    clear A40
    obtain ⟨y196, hy196⟩ : ∃ y_ : List ByteArray, y_ = (([(⟨#[117, 48]⟩ : ByteArray), (⟨#[117, 49]⟩ : ByteArray), (⟨#[117, 50]⟩ : ByteArray)] : List ByteArray)) := ⟨_, rfl⟩
    replace H : ((impl_LevelPut.f k t194 y196).bind fun bt199 => (if 1 + t194.size ≤ 9223372036854775807 then ((impl_LevelPut.f k ((⟨#[43]⟩ : ByteArray) ++ t194) (([(⟨#[122]⟩ : ByteArray), (⟨#[122]⟩ : ByteArray), (⟨#[122]⟩ : ByteArray)] : List ByteArray))).bind fun bt204 => (if bt199.2 = true then (if bt204.2 = true then (if bt199.1.toList = t194.toList then ((impl_LevelOk.f k t194).bind fun t206 => (if t206 = true then (if t194.size + t195.size ≤ 9223372036854775807 then ((impl_LevelEnd.f k (t194 ++ t195) 0).bind fun t207 => (if t207 = (t194.size : Int) then ((impl_LevelEnd.f k (t194 ++ t195) (t194.size : Int)).bind fun t208 => (if t208 = (wrap64 ((t194.size : Int) + (t195.size : Int))) then (if ((⟨#[109]⟩ : ByteArray) ++ t194).size + t195.size ≤ 9223372036854775807 then ((impl_LevelUps.f k (((⟨#[109]⟩ : ByteArray) ++ t194) ++ t195)).bind fun t209 => ((impl_LevelUps.f k t194).bind fun t210 => ((impl_LevelUps.f k t195).bind fun t211 => (if t209 = (wrap64 (t210 + t211)) then ((impl_LevelParams.f k bt204.1).bind fun t212 => (if t212 = 0 then ((impl_LevelUps.f k bt204.1).bind fun t213 => (if t213 = (wrap64 (t210 + 1)) then ((impl_LevelParams.f k t194).bind fun t214 => (if t214 ≤ 3 then ((impl_LevelOk.f k (t194 ++ t195)).bind fun t215 => (some (!t215))) else (none))) else (none))) else (none))) else (none))))) else (none)) else (none))) else (none))) else (none)) else (none))) else (none)) else (none)) else (none))) else (none))) = some r := by first | (rw [hy196]; with_reducible exact H) | (have H2_ := (Option.bind_some _ _).symm.trans H; rw [hy196]; with_reducible exact H2_) | (have H2_ := (Option.bind_some _ _).symm.trans H; with_reducible exact H2_) | with_reducible exact H | (rw [hy196]; exact H) | exact H
    have Ny196 := Aside0.mk hy196
    clear hy196
    replace H := Option.bind_eq_some_iff.mp H
    obtain ⟨⟨t199, t200⟩, A50, H⟩ := H
    replace H : (if 1 + t194.size ≤ 9223372036854775807 then ((impl_LevelPut.f k ((⟨#[43]⟩ : ByteArray) ++ t194) (([(⟨#[122]⟩ : ByteArray), (⟨#[122]⟩ : ByteArray), (⟨#[122]⟩ : ByteArray)] : List ByteArray))).bind fun bt204 => (if t200 = true then (if bt204.2 = true then (if t199.toList = t194.toList then ((impl_LevelOk.f k t194).bind fun t206 => (if t206 = true then (if t194.size + t195.size ≤ 9223372036854775807 then ((impl_LevelEnd.f k (t194 ++ t195) 0).bind fun t207 => (if t207 = (t194.size : Int) then ((impl_LevelEnd.f k (t194 ++ t195) (t194.size : Int)).bind fun t208 => (if t208 = (wrap64 ((t194.size : Int) + (t195.size : Int))) then (if ((⟨#[109]⟩ : ByteArray) ++ t194).size + t195.size ≤ 9223372036854775807 then ((impl_LevelUps.f k (((⟨#[109]⟩ : ByteArray) ++ t194) ++ t195)).bind fun t209 => ((impl_LevelUps.f k t194).bind fun t210 => ((impl_LevelUps.f k t195).bind fun t211 => (if t209 = (wrap64 (t210 + t211)) then ((impl_LevelParams.f k bt204.1).bind fun t212 => (if t212 = 0 then ((impl_LevelUps.f k bt204.1).bind fun t213 => (if t213 = (wrap64 (t210 + 1)) then ((impl_LevelParams.f k t194).bind fun t214 => (if t214 ≤ 3 then ((impl_LevelOk.f k (t194 ++ t195)).bind fun t215 => (some (!t215))) else (none))) else (none))) else (none))) else (none))))) else (none)) else (none))) else (none))) else (none)) else (none))) else (none)) else (none)) else (none))) else (none)) = some r := H
    have A5 := Aside0.mk A50
    clear A50
    by_cases c6 : 1 + t194.size ≤ 9223372036854775807
    · rw [if_pos c6] at H
      have c6b0 := eq_true c6
      have c6b1 : decide (1 + t194.size ≤ 9223372036854775807) = true := decide_eq_true c6
      try have c6b2 : (9223372036854775807 < 1 + t194.size) = False := eq_false (Nat.not_lt.2 c6)
      obtain ⟨y201, hy201⟩ : ∃ y_ : List ByteArray, y_ = (([(⟨#[122]⟩ : ByteArray), (⟨#[122]⟩ : ByteArray), (⟨#[122]⟩ : ByteArray)] : List ByteArray)) := ⟨_, rfl⟩
      replace H : ((impl_LevelPut.f k ((⟨#[43]⟩ : ByteArray) ++ t194) y201).bind fun bt204 => (if t200 = true then (if bt204.2 = true then (if t199.toList = t194.toList then ((impl_LevelOk.f k t194).bind fun t206 => (if t206 = true then (if t194.size + t195.size ≤ 9223372036854775807 then ((impl_LevelEnd.f k (t194 ++ t195) 0).bind fun t207 => (if t207 = (t194.size : Int) then ((impl_LevelEnd.f k (t194 ++ t195) (t194.size : Int)).bind fun t208 => (if t208 = (wrap64 ((t194.size : Int) + (t195.size : Int))) then (if ((⟨#[109]⟩ : ByteArray) ++ t194).size + t195.size ≤ 9223372036854775807 then ((impl_LevelUps.f k (((⟨#[109]⟩ : ByteArray) ++ t194) ++ t195)).bind fun t209 => ((impl_LevelUps.f k t194).bind fun t210 => ((impl_LevelUps.f k t195).bind fun t211 => (if t209 = (wrap64 (t210 + t211)) then ((impl_LevelParams.f k bt204.1).bind fun t212 => (if t212 = 0 then ((impl_LevelUps.f k bt204.1).bind fun t213 => (if t213 = (wrap64 (t210 + 1)) then ((impl_LevelParams.f k t194).bind fun t214 => (if t214 ≤ 3 then ((impl_LevelOk.f k (t194 ++ t195)).bind fun t215 => (some (!t215))) else (none))) else (none))) else (none))) else (none))))) else (none)) else (none))) else (none))) else (none)) else (none))) else (none)) else (none)) else (none))) = some r := by first | (rw [hy201]; with_reducible exact H) | (have H2_ := (Option.bind_some _ _).symm.trans H; rw [hy201]; with_reducible exact H2_) | (have H2_ := (Option.bind_some _ _).symm.trans H; with_reducible exact H2_) | with_reducible exact H | (rw [hy201]; exact H) | exact H
      have Ny201 := Aside0.mk hy201
      clear hy201
      replace H := Option.bind_eq_some_iff.mp H
      obtain ⟨⟨t204, t205⟩, A70, H⟩ := H
      replace H : (if t200 = true then (if t205 = true then (if t199.toList = t194.toList then ((impl_LevelOk.f k t194).bind fun t206 => (if t206 = true then (if t194.size + t195.size ≤ 9223372036854775807 then ((impl_LevelEnd.f k (t194 ++ t195) 0).bind fun t207 => (if t207 = (t194.size : Int) then ((impl_LevelEnd.f k (t194 ++ t195) (t194.size : Int)).bind fun t208 => (if t208 = (wrap64 ((t194.size : Int) + (t195.size : Int))) then (if ((⟨#[109]⟩ : ByteArray) ++ t194).size + t195.size ≤ 9223372036854775807 then ((impl_LevelUps.f k (((⟨#[109]⟩ : ByteArray) ++ t194) ++ t195)).bind fun t209 => ((impl_LevelUps.f k t194).bind fun t210 => ((impl_LevelUps.f k t195).bind fun t211 => (if t209 = (wrap64 (t210 + t211)) then ((impl_LevelParams.f k t204).bind fun t212 => (if t212 = 0 then ((impl_LevelUps.f k t204).bind fun t213 => (if t213 = (wrap64 (t210 + 1)) then ((impl_LevelParams.f k t194).bind fun t214 => (if t214 ≤ 3 then ((impl_LevelOk.f k (t194 ++ t195)).bind fun t215 => (some (!t215))) else (none))) else (none))) else (none))) else (none))))) else (none)) else (none))) else (none))) else (none)) else (none))) else (none)) else (none)) else (none)) = some r := H
      have A7 := Aside0.mk A70
      clear A70
      by_cases c8 : t200 = true
      · subst c8
        have H1 : (if t205 = true then (if t199.toList = t194.toList then ((impl_LevelOk.f k t194).bind fun t206 => (if t206 = true then (if t194.size + t195.size ≤ 9223372036854775807 then ((impl_LevelEnd.f k (t194 ++ t195) 0).bind fun t207 => (if t207 = (t194.size : Int) then ((impl_LevelEnd.f k (t194 ++ t195) (t194.size : Int)).bind fun t208 => (if t208 = (wrap64 ((t194.size : Int) + (t195.size : Int))) then (if ((⟨#[109]⟩ : ByteArray) ++ t194).size + t195.size ≤ 9223372036854775807 then ((impl_LevelUps.f k (((⟨#[109]⟩ : ByteArray) ++ t194) ++ t195)).bind fun t209 => ((impl_LevelUps.f k t194).bind fun t210 => ((impl_LevelUps.f k t195).bind fun t211 => (if t209 = (wrap64 (t210 + t211)) then ((impl_LevelParams.f k t204).bind fun t212 => (if t212 = 0 then ((impl_LevelUps.f k t204).bind fun t213 => (if t213 = (wrap64 (t210 + 1)) then ((impl_LevelParams.f k t194).bind fun t214 => (if t214 ≤ 3 then ((impl_LevelOk.f k (t194 ++ t195)).bind fun t215 => (some (!t215))) else (none))) else (none))) else (none))) else (none))))) else (none)) else (none))) else (none))) else (none)) else (none))) else (none)) else (none)) = some r := by rw [if_pos rfl] at H; exact H
        clear H
        have H := H1
        clear H1
        by_cases c9 : t205 = true
        · subst c9
          have H1 : (if t199.toList = t194.toList then ((impl_LevelOk.f k t194).bind fun t206 => (if t206 = true then (if t194.size + t195.size ≤ 9223372036854775807 then ((impl_LevelEnd.f k (t194 ++ t195) 0).bind fun t207 => (if t207 = (t194.size : Int) then ((impl_LevelEnd.f k (t194 ++ t195) (t194.size : Int)).bind fun t208 => (if t208 = (wrap64 ((t194.size : Int) + (t195.size : Int))) then (if ((⟨#[109]⟩ : ByteArray) ++ t194).size + t195.size ≤ 9223372036854775807 then ((impl_LevelUps.f k (((⟨#[109]⟩ : ByteArray) ++ t194) ++ t195)).bind fun t209 => ((impl_LevelUps.f k t194).bind fun t210 => ((impl_LevelUps.f k t195).bind fun t211 => (if t209 = (wrap64 (t210 + t211)) then ((impl_LevelParams.f k t204).bind fun t212 => (if t212 = 0 then ((impl_LevelUps.f k t204).bind fun t213 => (if t213 = (wrap64 (t210 + 1)) then ((impl_LevelParams.f k t194).bind fun t214 => (if t214 ≤ 3 then ((impl_LevelOk.f k (t194 ++ t195)).bind fun t215 => (some (!t215))) else (none))) else (none))) else (none))) else (none))))) else (none)) else (none))) else (none))) else (none)) else (none))) else (none)) = some r := by rw [if_pos rfl] at H; exact H
          clear H
          have H := H1
          clear H1
          by_cases c10 : t199.toList = t194.toList
          · rw [if_pos c10] at H
            have c10b0 : (t199.toList == t194.toList) = true := beq_iff_eq.mpr c10
            have c10b1 : (t199.toList != t194.toList) = false := bne_eq_false_iff_eq.mpr c10
            clear c10
            replace H := Option.bind_eq_some_iff.mp H
            obtain ⟨t206, A110, H⟩ := H
            replace H : (if t206 = true then (if t194.size + t195.size ≤ 9223372036854775807 then ((impl_LevelEnd.f k (t194 ++ t195) 0).bind fun t207 => (if t207 = (t194.size : Int) then ((impl_LevelEnd.f k (t194 ++ t195) (t194.size : Int)).bind fun t208 => (if t208 = (wrap64 ((t194.size : Int) + (t195.size : Int))) then (if ((⟨#[109]⟩ : ByteArray) ++ t194).size + t195.size ≤ 9223372036854775807 then ((impl_LevelUps.f k (((⟨#[109]⟩ : ByteArray) ++ t194) ++ t195)).bind fun t209 => ((impl_LevelUps.f k t194).bind fun t210 => ((impl_LevelUps.f k t195).bind fun t211 => (if t209 = (wrap64 (t210 + t211)) then ((impl_LevelParams.f k t204).bind fun t212 => (if t212 = 0 then ((impl_LevelUps.f k t204).bind fun t213 => (if t213 = (wrap64 (t210 + 1)) then ((impl_LevelParams.f k t194).bind fun t214 => (if t214 ≤ 3 then ((impl_LevelOk.f k (t194 ++ t195)).bind fun t215 => (some (!t215))) else (none))) else (none))) else (none))) else (none))))) else (none)) else (none))) else (none))) else (none)) else (none)) = some r := H
            have A11 := Aside0.mk A110
            clear A110
            by_cases c12 : t206 = true
            · subst c12
              have H1 : (if t194.size + t195.size ≤ 9223372036854775807 then ((impl_LevelEnd.f k (t194 ++ t195) 0).bind fun t207 => (if t207 = (t194.size : Int) then ((impl_LevelEnd.f k (t194 ++ t195) (t194.size : Int)).bind fun t208 => (if t208 = (wrap64 ((t194.size : Int) + (t195.size : Int))) then (if ((⟨#[109]⟩ : ByteArray) ++ t194).size + t195.size ≤ 9223372036854775807 then ((impl_LevelUps.f k (((⟨#[109]⟩ : ByteArray) ++ t194) ++ t195)).bind fun t209 => ((impl_LevelUps.f k t194).bind fun t210 => ((impl_LevelUps.f k t195).bind fun t211 => (if t209 = (wrap64 (t210 + t211)) then ((impl_LevelParams.f k t204).bind fun t212 => (if t212 = 0 then ((impl_LevelUps.f k t204).bind fun t213 => (if t213 = (wrap64 (t210 + 1)) then ((impl_LevelParams.f k t194).bind fun t214 => (if t214 ≤ 3 then ((impl_LevelOk.f k (t194 ++ t195)).bind fun t215 => (some (!t215))) else (none))) else (none))) else (none))) else (none))))) else (none)) else (none))) else (none))) else (none)) = some r := by rw [if_pos rfl] at H; exact H
              clear H
              have H := H1
              clear H1
              by_cases c13 : t194.size + t195.size ≤ 9223372036854775807
              · rw [if_pos c13] at H
                have c13b0 := eq_true c13
                have c13b1 : decide (t194.size + t195.size ≤ 9223372036854775807) = true := decide_eq_true c13
                try have c13b2 : (9223372036854775807 < t194.size + t195.size) = False := eq_false (Nat.not_lt.2 c13)
                replace H := Option.bind_eq_some_iff.mp H
                obtain ⟨t207, A140, H⟩ := H
                replace H : (if t207 = (t194.size : Int) then ((impl_LevelEnd.f k (t194 ++ t195) (t194.size : Int)).bind fun t208 => (if t208 = (wrap64 ((t194.size : Int) + (t195.size : Int))) then (if ((⟨#[109]⟩ : ByteArray) ++ t194).size + t195.size ≤ 9223372036854775807 then ((impl_LevelUps.f k (((⟨#[109]⟩ : ByteArray) ++ t194) ++ t195)).bind fun t209 => ((impl_LevelUps.f k t194).bind fun t210 => ((impl_LevelUps.f k t195).bind fun t211 => (if t209 = (wrap64 (t210 + t211)) then ((impl_LevelParams.f k t204).bind fun t212 => (if t212 = 0 then ((impl_LevelUps.f k t204).bind fun t213 => (if t213 = (wrap64 (t210 + 1)) then ((impl_LevelParams.f k t194).bind fun t214 => (if t214 ≤ 3 then ((impl_LevelOk.f k (t194 ++ t195)).bind fun t215 => (some (!t215))) else (none))) else (none))) else (none))) else (none))))) else (none)) else (none))) else (none)) = some r := H
                have A14 := Aside0.mk A140
                clear A140
                by_cases c15 : t207 = (t194.size : Int)
                · rw [if_pos c15] at H
                  have c15b0 : (t207 == (t194.size : Int)) = true := beq_iff_eq.mpr c15
                  have c15b1 : (t207 != (t194.size : Int)) = false := bne_eq_false_iff_eq.mpr c15
                  clear c15
                  replace H := Option.bind_eq_some_iff.mp H
                  obtain ⟨t208, A160, H⟩ := H
                  replace H : (if t208 = (wrap64 ((t194.size : Int) + (t195.size : Int))) then (if ((⟨#[109]⟩ : ByteArray) ++ t194).size + t195.size ≤ 9223372036854775807 then ((impl_LevelUps.f k (((⟨#[109]⟩ : ByteArray) ++ t194) ++ t195)).bind fun t209 => ((impl_LevelUps.f k t194).bind fun t210 => ((impl_LevelUps.f k t195).bind fun t211 => (if t209 = (wrap64 (t210 + t211)) then ((impl_LevelParams.f k t204).bind fun t212 => (if t212 = 0 then ((impl_LevelUps.f k t204).bind fun t213 => (if t213 = (wrap64 (t210 + 1)) then ((impl_LevelParams.f k t194).bind fun t214 => (if t214 ≤ 3 then ((impl_LevelOk.f k (t194 ++ t195)).bind fun t215 => (some (!t215))) else (none))) else (none))) else (none))) else (none))))) else (none)) else (none)) = some r := H
                  have A16 := Aside0.mk A160
                  clear A160
                  by_cases c17 : t208 = (wrap64 ((t194.size : Int) + (t195.size : Int)))
                  · rw [if_pos c17] at H
                    (try (have c17b0 : (t208 == ((t194.size : Int) + (t195.size : Int))) = true := by rw [beq_iff_eq]; have h_ := c17; unfold wrap64 at h_; omega))
                    (try (have c17b1 : (t208 != ((t194.size : Int) + (t195.size : Int))) = false := by rw [bne_eq_false_iff_eq]; have h_ := c17; unfold wrap64 at h_; omega))
                    have c17b2 : (t208 == (wrap64 ((t194.size : Int) + (t195.size : Int)))) = true := beq_iff_eq.mpr c17
                    have c17b3 : (t208 != (wrap64 ((t194.size : Int) + (t195.size : Int)))) = false := bne_eq_false_iff_eq.mpr c17
                    clear c17
                    by_cases c18 : ((⟨#[109]⟩ : ByteArray) ++ t194).size + t195.size ≤ 9223372036854775807
                    · rw [if_pos c18] at H
                      have c18b0 := eq_true c18
                      have c18b1 : decide (((⟨#[109]⟩ : ByteArray) ++ t194).size + t195.size ≤ 9223372036854775807) = true := decide_eq_true c18
                      try have c18b2 : (9223372036854775807 < ((⟨#[109]⟩ : ByteArray) ++ t194).size + t195.size) = False := eq_false (Nat.not_lt.2 c18)
                      try have c18b3 : (9223372036854775807 < (1 + t194.size) + t195.size) = False := eq_false (Nat.not_lt.2 (by have h_ := c18; (repeat rw [ByteArray.size_append] at h_); exact h_))
                      replace H := Option.bind_eq_some_iff.mp H
                      obtain ⟨t209, A190, H⟩ := H
                      replace H : ((impl_LevelUps.f k t194).bind fun t210 => ((impl_LevelUps.f k t195).bind fun t211 => (if t209 = (wrap64 (t210 + t211)) then ((impl_LevelParams.f k t204).bind fun t212 => (if t212 = 0 then ((impl_LevelUps.f k t204).bind fun t213 => (if t213 = (wrap64 (t210 + 1)) then ((impl_LevelParams.f k t194).bind fun t214 => (if t214 ≤ 3 then ((impl_LevelOk.f k (t194 ++ t195)).bind fun t215 => (some (!t215))) else (none))) else (none))) else (none))) else (none)))) = some r := H
                      have A19 := Aside0.mk A190
                      clear A190
                      replace H := Option.bind_eq_some_iff.mp H
                      obtain ⟨t210, A200, H⟩ := H
                      replace H : ((impl_LevelUps.f k t195).bind fun t211 => (if t209 = (wrap64 (t210 + t211)) then ((impl_LevelParams.f k t204).bind fun t212 => (if t212 = 0 then ((impl_LevelUps.f k t204).bind fun t213 => (if t213 = (wrap64 (t210 + 1)) then ((impl_LevelParams.f k t194).bind fun t214 => (if t214 ≤ 3 then ((impl_LevelOk.f k (t194 ++ t195)).bind fun t215 => (some (!t215))) else (none))) else (none))) else (none))) else (none))) = some r := H
                      have A20 := Aside0.mk A200
                      clear A200
                      replace H := Option.bind_eq_some_iff.mp H
                      obtain ⟨t211, A210, H⟩ := H
                      replace H : (if t209 = (wrap64 (t210 + t211)) then ((impl_LevelParams.f k t204).bind fun t212 => (if t212 = 0 then ((impl_LevelUps.f k t204).bind fun t213 => (if t213 = (wrap64 (t210 + 1)) then ((impl_LevelParams.f k t194).bind fun t214 => (if t214 ≤ 3 then ((impl_LevelOk.f k (t194 ++ t195)).bind fun t215 => (some (!t215))) else (none))) else (none))) else (none))) else (none)) = some r := H
                      have A21 := Aside0.mk A210
                      clear A210
                      by_cases c22 : t209 = (wrap64 (t210 + t211))
                      · rw [if_pos c22] at H
                        have c22b0 : (t209 == (wrap64 (t210 + t211))) = true := beq_iff_eq.mpr c22
                        have c22b1 : (t209 != (wrap64 (t210 + t211))) = false := bne_eq_false_iff_eq.mpr c22
                        clear c22
                        replace H := Option.bind_eq_some_iff.mp H
                        obtain ⟨t212, A230, H⟩ := H
                        replace H : (if t212 = 0 then ((impl_LevelUps.f k t204).bind fun t213 => (if t213 = (wrap64 (t210 + 1)) then ((impl_LevelParams.f k t194).bind fun t214 => (if t214 ≤ 3 then ((impl_LevelOk.f k (t194 ++ t195)).bind fun t215 => (some (!t215))) else (none))) else (none))) else (none)) = some r := H
                        have A23 := Aside0.mk A230
                        clear A230
                        by_cases c24 : t212 = 0
                        · rw [if_pos c24] at H
                          have c24b0 : (t212 == 0) = true := beq_iff_eq.mpr c24
                          have c24b1 : (t212 != 0) = false := bne_eq_false_iff_eq.mpr c24
                          clear c24
                          replace H := Option.bind_eq_some_iff.mp H
                          obtain ⟨t213, A250, H⟩ := H
                          replace H : (if t213 = (wrap64 (t210 + 1)) then ((impl_LevelParams.f k t194).bind fun t214 => (if t214 ≤ 3 then ((impl_LevelOk.f k (t194 ++ t195)).bind fun t215 => (some (!t215))) else (none))) else (none)) = some r := H
                          have A25 := Aside0.mk A250
                          clear A250
                          by_cases c26 : t213 = (wrap64 (t210 + 1))
                          · rw [if_pos c26] at H
                            have c26b0 : (t213 == (wrap64 (t210 + 1))) = true := beq_iff_eq.mpr c26
                            have c26b1 : (t213 != (wrap64 (t210 + 1))) = false := bne_eq_false_iff_eq.mpr c26
                            clear c26
                            replace H := Option.bind_eq_some_iff.mp H
                            obtain ⟨t214, A270, H⟩ := H
                            replace H : (if t214 ≤ 3 then ((impl_LevelOk.f k (t194 ++ t195)).bind fun t215 => (some (!t215))) else (none)) = some r := H
                            have A27 := Aside0.mk A270
                            clear A270
                            by_cases c28 : t214 ≤ 3
                            · rw [if_pos c28] at H
                              have c28b0 : decide (t214 ≤ 3) = true := decide_eq_true c28
                              clear c28
                              replace H := Option.bind_eq_some_iff.mp H
                              obtain ⟨t215, A290, H⟩ := H
                              replace H : (some (!t215)) = some r := H
                              have A29 := Aside0.mk A290
                              clear A290
                              obtain rfl := Option.some.inj H
                              go_enter Try.func12, Try.ntmps12
                              go_wp2_with (first | ((with_reducible refine gate_callee (f := 40) rfl ?_); refine goesL_ (some 10) rfl rfl Try.func40 (by kernel_rfl) rfl #[.slice A0 l0.length c0] rfl (by (try simp only [List.map_toArray, List.map_cons, List.map_nil]); first | done | rfl | (simp only [List.length_drop, List.length_take]; rfl)) ?_; (with_reducible refine (laws_big.calls _ _ l0 false _ ?side1 ?side2 A2.out).mono ?_); (case side1 => repeat (first | exact HR0.out | (with_reducible refine Kd.C_alloc ?_ _) | (with_reducible refine Kd.C_drewN ?_ _) | (with_reducible refine Kd.C_drew ?_))); (case side2 => exact HC0.out); rintro e w' ⟨rfl, ⟨nd, rfl⟩⟩; refine ⟨_, rfl, ?_⟩) | ((with_reducible refine gate_callee (f := 41) rfl ?_); refine goesL_ (some 13) rfl rfl Try.func41 (by kernel_rfl) rfl #[.slice A0 l0.length c0] rfl (by (try simp only [List.map_toArray, List.map_cons, List.map_nil]); first | done | rfl | (simp only [List.length_drop, List.length_take]; rfl)) ?_; (with_reducible refine (spec_DrawLevels.calls k _ _ l0 t194 t195 _ ?side1 ?side2 A4.out).mono ?_); (case side1 => repeat (first | exact HR0.out | (with_reducible refine Kd.C_alloc ?_ _) | (with_reducible refine Kd.C_drewN ?_ _) | (with_reducible refine Kd.C_drew ?_))); (case side2 => exact HC0.out); rintro e w30 ⟨rfl, hb⟩; refine ⟨_, rfl, ?_⟩; have n0_ := Aside0.mk (below_step (by repeat (first | (with_reducible first | exact HB.out | apply below_alloc | apply pw_below_drewN | apply below_drew1) | exact HB.out)) hb); clear HB; have HB := n0_; clear n0_; (try clear hb); (try clear hb2); (try clear hk); (try clear hi)) | ((with_reducible refine gate_dst (N := 18) rfl ?_); (try (refine gate_guard (by rfl) ?_; dsimp only)); refine Kd.R_lit Kd.string _ 9 ?hg (N := 18) ?hd (xs := ([(⟨#[117, 48]⟩ : ByteArray), (⟨#[117, 49]⟩ : ByteArray), (⟨#[117, 50]⟩ : ByteArray)] : List ByteArray)) (inner := [.string (⟨#[117, 48]⟩ : ByteArray), .string (⟨#[117, 49]⟩ : ByteArray), .string (⟨#[117, 50]⟩ : ByteArray)]) (ok := fun _ => True) (okp := fun _ => True) ?hr ?hp (fun _ hk => hk) trivial (Below.refl _ _) (Nat.le_refl _) (by simp) ?_; (case hd => rfl); (case hg => rfl); (case hr => first | (go_simp; done) | (go_simp; rfl)); (case hp => exact (Reps.one (show Kd.M Kd.string _ _ _ (⟨#[117, 48]⟩ : ByteArray) [.string (⟨#[117, 48]⟩ : ByteArray)] from rfl) (Reps.one (show Kd.M Kd.string _ _ _ (⟨#[117, 49]⟩ : ByteArray) [.string (⟨#[117, 49]⟩ : ByteArray)] from rfl) (Reps.one (show Kd.M Kd.string _ _ _ (⟨#[117, 50]⟩ : ByteArray) [.string (⟨#[117, 50]⟩ : ByteArray)] from rfl) (Reps.none _ _))))); intro v197 w31 ho32 hb hg_ hnew_; clear hg_ hnew_; (first | rw [← Ny196.out] at ho32 | (simp only [Int.reduceToNat] at ho32; rw [← Ny196.out] at ho32)); have n0_ := Aside0.mk (Kd.R_lower ho32 (below_size (by repeat (first | (with_reducible first | exact HB.out | apply below_alloc | apply pw_below_drewN | apply below_drew1) | exact HB.out)))); have n1_ := Aside0.mk (below_step (by repeat (first | (with_reducible first | exact HB.out | apply below_alloc | apply pw_below_drewN | apply below_drew1) | exact HB.out)) hb); clear HB; have HO198 := n0_; have HB := n1_; clear n0_ n1_; clear hb ho32; obtain ⟨Ao33, co33, eo33⟩ := Kd.R_slice HO198.out; subst eo33) | ((with_reducible refine gate_callee (f := 22) rfl ?_); refine goesL_ (some 19) rfl rfl Try.func22 (by kernel_rfl) rfl #[.string t194, .slice Ao33 y196.length co33] rfl (by (try simp only [List.map_toArray, List.map_cons, List.map_nil]); first | done | rfl | (simp only [List.length_drop, List.length_take]; rfl)) ?_; (with_reducible refine (impl_LevelPut.calls k t194 _ _ y196 t199 true _ ?side1 ?side2 A5.out).mono ?_); (case side1 => repeat (first | exact (Kd.R_reads' HO198.out).2.2 | (with_reducible refine Kd.C_alloc ?_ _) | (with_reducible refine Kd.C_drewN ?_ _) | (with_reducible refine Kd.C_drew ?_))); (case side2 => exact (Kd.R_reads' HO198.out).2.1); rintro e w34 ⟨rfl, hb⟩; refine ⟨_, rfl, ?_⟩; have n0_ := Aside0.mk (Kd.R_below (by (with_reducible repeat (first | apply Kd.R_alloc | apply Kd.R_drewN | apply Kd.R_drew)); exact HO198.out) hb); have n1_ := Aside0.mk (below_step (by repeat (first | (with_reducible first | exact HB.out | apply below_alloc | apply pw_below_drewN | apply below_drew1) | exact HB.out)) hb); clear HO198; clear HB; have HO198 := n0_; have HB := n1_; clear n0_ n1_; (try clear hb); (try clear hb2); (try clear hk); (try clear hi)) | ((with_reducible refine gate_dst (N := 25) rfl ?_); (try (refine gate_guard (by rfl) ?_; dsimp only)); refine Kd.R_lit Kd.string _ 9 ?hg (N := 25) ?hd (xs := ([(⟨#[122]⟩ : ByteArray), (⟨#[122]⟩ : ByteArray), (⟨#[122]⟩ : ByteArray)] : List ByteArray)) (inner := [.string (⟨#[122]⟩ : ByteArray), .string (⟨#[122]⟩ : ByteArray), .string (⟨#[122]⟩ : ByteArray)]) (ok := fun _ => True) (okp := fun _ => True) ?hr ?hp (fun _ hk => hk) trivial (Below.refl _ _) (Nat.le_refl _) (by simp) ?_; (case hd => rfl); (case hg => rfl); (case hr => first | (go_simp; done) | (go_simp; rfl)); (case hp => exact (Reps.one (show Kd.M Kd.string _ _ _ (⟨#[122]⟩ : ByteArray) [.string (⟨#[122]⟩ : ByteArray)] from rfl) (Reps.one (show Kd.M Kd.string _ _ _ (⟨#[122]⟩ : ByteArray) [.string (⟨#[122]⟩ : ByteArray)] from rfl) (Reps.one (show Kd.M Kd.string _ _ _ (⟨#[122]⟩ : ByteArray) [.string (⟨#[122]⟩ : ByteArray)] from rfl) (Reps.none _ _))))); intro v202 w35 ho36 hb hg_ hnew_; clear hg_ hnew_; (first | rw [← Ny201.out] at ho36 | (simp only [Int.reduceToNat] at ho36; rw [← Ny201.out] at ho36)); have n0_ := Aside0.mk (Kd.R_elder' (by (with_reducible repeat (first | apply Kd.R_alloc | apply Kd.R_drewN | apply Kd.R_drew)); exact HO198.out) (Kd.R_base ho36) hb); have n1_ := Aside0.mk (Kd.R_lower (Kd.R_new' ho36 (Kd.R_lt (by (with_reducible repeat (first | apply Kd.R_alloc | apply Kd.R_drewN | apply Kd.R_drew)); exact HO198.out))) (below_size (by repeat (first | (with_reducible first | exact HB.out | apply below_alloc | apply pw_below_drewN | apply below_drew1) | exact HB.out)))); have n2_ := Aside0.mk (below_step (by repeat (first | (with_reducible first | exact HB.out | apply below_alloc | apply pw_below_drewN | apply below_drew1) | exact HB.out)) hb); clear HO198; clear HB; have HO198 := n0_; have HO203 := n1_; have HB := n2_; clear n0_ n1_ n2_; clear hb ho36; obtain ⟨Ao37, co37, eo37⟩ := Kd.R_slice HO203.out; subst eo37) | ((with_reducible refine gate_callee (f := 22) rfl ?_); refine goesL_ (some 26) rfl rfl Try.func22 (by kernel_rfl) rfl #[.string ((⟨#[43]⟩ : ByteArray) ++ t194), .slice Ao37 y201.length co37] rfl (by (try simp only [List.map_toArray, List.map_cons, List.map_nil]); first | done | rfl | (simp only [List.length_drop, List.length_take]; rfl)) ?_; (with_reducible refine (impl_LevelPut.calls k ((⟨#[43]⟩ : ByteArray) ++ t194) _ _ y201 t204 true _ ?side1 ?side2 A7.out).mono ?_); (case side1 => repeat (first | exact (Kd.R_reads' HO203.out).2.2 | (with_reducible refine Kd.C_alloc ?_ _) | (with_reducible refine Kd.C_drewN ?_ _) | (with_reducible refine Kd.C_drew ?_))); (case side2 => exact (Kd.R_reads' HO203.out).2.1); rintro e w38 ⟨rfl, hb⟩; refine ⟨_, rfl, ?_⟩; have n0_ := Aside0.mk (Kd.R_below (by (with_reducible repeat (first | apply Kd.R_alloc | apply Kd.R_drewN | apply Kd.R_drew)); exact HO198.out) hb); have n1_ := Aside0.mk (Kd.R_below (by (with_reducible repeat (first | apply Kd.R_alloc | apply Kd.R_drewN | apply Kd.R_drew)); exact HO203.out) hb); have n2_ := Aside0.mk (below_step (by repeat (first | (with_reducible first | exact HB.out | apply below_alloc | apply pw_below_drewN | apply below_drew1) | exact HB.out)) hb); clear HO198; clear HO203; clear HB; have HO198 := n0_; have HO203 := n1_; have HB := n2_; clear n0_ n1_ n2_; (try clear hb); (try clear hb2); (try clear hk); (try clear hi)) | (go_at_call 42; (with_reducible refine (impl_LevelOk.calls k t194 true _ A11.out).mono ?_); rintro e w' ⟨rfl, ⟨nd, rfl⟩⟩) | (go_at_call 43; (with_reducible refine (impl_LevelEnd.calls k (t194 ++ t195) 0 t207 _ A14.out).mono ?_); rintro e w' ⟨rfl, ⟨nd, rfl⟩⟩) | (go_at_call 43; (with_reducible refine (impl_LevelEnd.calls k (t194 ++ t195) (t194.size : Int) t208 _ A16.out).mono ?_); rintro e w' ⟨rfl, ⟨nd, rfl⟩⟩) | (go_at_call 18; (with_reducible refine (impl_LevelUps.calls k (((⟨#[109]⟩ : ByteArray) ++ t194) ++ t195) t209 _ A19.out).mono ?_); rintro e w' ⟨rfl, ⟨nd, rfl⟩⟩) | (go_at_call 18; (with_reducible refine (impl_LevelUps.calls k t194 t210 _ A20.out).mono ?_); rintro e w' ⟨rfl, ⟨nd, rfl⟩⟩) | (go_at_call 18; (with_reducible refine (impl_LevelUps.calls k t195 t211 _ A21.out).mono ?_); rintro e w' ⟨rfl, ⟨nd, rfl⟩⟩) | (go_at_call 16; (with_reducible refine (impl_LevelParams.calls k t204 t212 _ A23.out).mono ?_); rintro e w' ⟨rfl, ⟨nd, rfl⟩⟩) | (go_at_call 18; (with_reducible refine (impl_LevelUps.calls k t204 t213 _ A25.out).mono ?_); rintro e w' ⟨rfl, ⟨nd, rfl⟩⟩) | (go_at_call 16; (with_reducible refine (impl_LevelParams.calls k t194 t214 _ A27.out).mono ?_); rintro e w' ⟨rfl, ⟨nd, rfl⟩⟩) | (go_at_call 42; (with_reducible refine (impl_LevelOk.calls k (t194 ++ t195) t215 _ A29.out).mono ?_); rintro e w' ⟨rfl, ⟨nd, rfl⟩⟩))
                              go_ret
                              exact ⟨by first | rfl | (simp [errW_none, errW_some] <;> rfl) | (simp [*, errW_none, errW_some] <;> rfl), by repeat (first | (with_reducible first | exact HB.out | apply below_alloc | apply pw_below_drewN | apply below_drew1) | exact HB.out)⟩
                            · rw [if_neg c28] at H
                              exact absurd H (by simp)
                          · rw [if_neg c26] at H
                            exact absurd H (by simp)
                        · rw [if_neg c24] at H
                          exact absurd H (by simp)
                      · rw [if_neg c22] at H
                        exact absurd H (by simp)
                    · rw [if_neg c18] at H
                      exact absurd H (by simp)
                  · rw [if_neg c17] at H
                    exact absurd H (by simp)
                · rw [if_neg c15] at H
                  exact absurd H (by simp)
              · rw [if_neg c13] at H
                exact absurd H (by simp)
            · replace c12 := Bool.eq_false_iff.mpr c12
              subst c12
              have H1 : (none) = some r := by rw [if_neg (show ¬ (false = true) by decide)] at H; exact H
              clear H
              have H := H1
              clear H1
              exact absurd H (by simp)
          · rw [if_neg c10] at H
            exact absurd H (by simp)
        · replace c9 := Bool.eq_false_iff.mpr c9
          subst c9
          have H1 : (none) = some r := by rw [if_neg (show ¬ (false = true) by decide)] at H; exact H
          clear H
          have H := H1
          clear H1
          exact absurd H (by simp)
      · replace c8 := Bool.eq_false_iff.mpr c8
        subst c8
        have H1 : (none) = some r := by rw [if_neg (show ¬ (false = true) by decide)] at H; exact H
        clear H
        have H := H1
        clear H1
        exact absurd H (by simp)
    · rw [if_neg c6] at H
      exact absurd H (by simp)

/-- THE ONE PURE STATEMENT of laws_FnLevels: yours. -/
def laws_FnLevels.Pure : Prop := ∀ (l0 : List Int), l0.length ≤ maxLen → l0.length * 1 ≤ 140737488351232 → (∀ x ∈ l0, (Lit.int .u8 x).wf = true) → ∃ k, laws_FnLevels.f k l0 = some true
theorem laws_FnLevels.walk (P : laws_FnLevels.Pure) (a0 : Option Addr) (len0 cap0 : Nat) (z0 : List Int) (w : World) (w0 : (a0 = none ∧ len0 = 0 ∧ cap0 = 0 ∧ z0 = []) ∨ ∃ x, a0 = some x ∧ len0 ≤ cap0 ∧ cap0 ≤ maxLen ∧ z0.length = cap0 ∧ (∀ i, i < z0.length → w.cell? (x.add i) = some (.int .u8 (z0.getD i 0))) ∧ ∀ n ∈ z0, (Lit.int .u8 n).wf = true) (y0 : len0 * 1 ≤ 140737488351232) :
    Calls Try.prog 12 #[.slice a0 len0 cap0] w fun e w' => e = .returned (.bool true) ∧ Below w.heap.size w w' := by
  obtain ⟨l0, rfl, hr0, hm0, hw0, hc0⟩ := ReadsInt.ofRowC w0
  obtain ⟨k, h⟩ := P l0 hm0 y0 hw0
  refine (laws_FnLevels.calls k _ _ l0 true w (Kd.C_of_reads (d := (0 : Int)) (h1 := fun _ => rfl) hr0) hc0 h).mono ?_
  rintro e w' ⟨rfl, hd⟩
  exact ⟨rfl, hd⟩

end Go.Proofs.Ytjnfehajgogjiaa.Q
