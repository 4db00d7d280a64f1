/- Printed for this claim by a program of this session (wip/tools/xprint.py) out of the translation: what each Go function comes to, and that it comes to it. Not trusted: Lean checks it. -/
import Derived.Shelf.Sort.Plain
import Derived.Shelf.Slices.In.SortNone
import Derived.Shelf.Slices.CompactS
import Derived.Test.YtmhbikkldbcgkaaSh
import Derived.Test.YtmhbikkldbcgkaaSl
import Derived.Test.YtmhbikkldbcgkaaGr
import Derived.Test.YtmhbikkldbcgkaaBo
import Derived.Test.YtmhbikkldbcgkaaQ0
import Derived.Test.YtmhbikkldbcgkaaQ2
namespace Go.Proofs.Ytmhbikkldbcgkaa.Q
open Go.RowKit Go.Proofs.YtmhbikkldbcgkaaW.PrintWords Go.Proofs.YtmhbikkldbcgkaaW.PrintLast Go.Proofs.YtmhbikkldbcgkaaW.PrintMore
attribute [local go_sem] max2_int min2_int max_two min_two max_three min_three max_four min_four   -- for this text's walks alone
set_option linter.unusedVariables false
set_option linter.unusedSimpArgs false

/-! ### spec_NamesBoth: function 5 -/
def spec_NamesBoth.f (k : Nat) (l0 : List ByteArray) (l1 : List ByteArray) : Option (List ByteArray) := (some (([] : List ByteArray) : List ByteArray)).bind fun y137 => (if y137.length + l0.length < 8796093022208 then ((some (y137 ++ l0 : List ByteArray)).bind fun y140 => (if y140.length + l1.length < 8796093022208 then ((spec_l02Sorted.f k (y140 ++ l1)).bind fun t146 => (some t146)) else (none))) else (none))
theorem spec_NamesBoth.mono : ∀ a0 a1 k, LeO (spec_NamesBoth.f k a0 a1) (spec_NamesBoth.f (k + 1) a0 a1) := by
  intro a0 a1 k
  unfold spec_NamesBoth.f
  repeat' first
      | (with_reducible exact spec_l02Sorted.mono _ _)
      | (with_reducible exact LeO.refl _)
      | (with_reducible exact LeO.none _)
      | (with_reducible refine LeO.ite ?_ ?_)
      | (with_reducible refine LeO.bind ?_ (fun _ => ?_))
      | exact spec_l02Sorted.mono _ _
      | exact LeO.none _
      | refine LeO.ite ?_ ?_
      | refine LeO.bind ?_ (fun _ => ?_)
set_option maxHeartbeats 8000000 in
set_option maxRecDepth 100000 in
theorem spec_NamesBoth.calls (k : Nat) (A0 : Option Addr) (c0 : Nat) (l0 : List ByteArray) (A1 : Option Addr) (c1 : Nat) (l1 : List ByteArray) (r : List ByteArray) (w : World) (hr0 : Kd.C Kd.string w A0 l0.length l0) (hc0 : l0.length ≤ c0) (hr1 : Kd.C Kd.string w A1 l1.length l1) (hc1 : l1.length ≤ c1) (h : spec_NamesBoth.f k l0 l1 = some r) :
    Calls Try.prog 5 #[.slice A0 l0.length c0, .slice A1 l1.length c1] w fun e w' => ∃ v0_ : Value, e = .returned (v0_) ∧ Kd.R Kd.string 9 w' w.heap.size (fun _ => True) v0_ r ∧ Below w.heap.size w w' := by
  have HR0 := Aside0.mk hr0
  have HC0 := Aside0.mk hc0
  clear hr0 hc0
  have HR1 := Aside0.mk hr1
  have HC1 := Aside0.mk hc1
  clear hr1 hc1
  have HB := Aside0.mk (Below.refl w.heap.size w)
  have H : ((some (([] : List ByteArray) : List ByteArray)).bind fun y137 => (if y137.length + l0.length < 8796093022208 then ((some (y137 ++ l0 : List ByteArray)).bind fun y140 => (if y140.length + l1.length < 8796093022208 then ((spec_l02Sorted.f k (y140 ++ l1)).bind fun t146 => (some t146)) else (none))) else (none))) = some r := h
  clear h
  obtain ⟨y137, hy137⟩ : ∃ y_ : List ByteArray, y_ = (([] : List ByteArray)) := ⟨_, rfl⟩
  replace H : (if y137.length + l0.length < 8796093022208 then ((some (y137 ++ l0 : List ByteArray)).bind fun y140 => (if y140.length + l1.length < 8796093022208 then ((spec_l02Sorted.f k (y140 ++ l1)).bind fun t146 => (some t146)) else (none))) else (none)) = some r := by first | (rw [hy137]; with_reducible exact H) | (have H2_ := (Option.bind_some _ _).symm.trans H; rw [hy137]; with_reducible exact H2_) | (have H2_ := (Option.bind_some _ _).symm.trans H; with_reducible exact H2_) | with_reducible exact H | (rw [hy137]; exact H) | exact H
  have Ny137 := Aside0.mk hy137
  clear hy137
  by_cases c3 : y137.length + l0.length < 8796093022208
  · rw [if_pos c3] at H
    have LMc3 := Aside0.mk c3
    clear c3
    obtain ⟨y140, hy140⟩ : ∃ y_ : List ByteArray, y_ = (y137 ++ l0) := ⟨_, rfl⟩
    replace H : (if y140.length + l1.length < 8796093022208 then ((spec_l02Sorted.f k (y140 ++ l1)).bind fun t146 => (some t146)) else (none)) = some r := by first | (rw [hy140]; with_reducible exact H) | (have H2_ := (Option.bind_some _ _).symm.trans H; rw [hy140]; with_reducible exact H2_) | (have H2_ := (Option.bind_some _ _).symm.trans H; with_reducible exact H2_) | with_reducible exact H | (rw [hy140]; exact H) | exact H
    have Ny140 := Aside0.mk hy140
    clear hy140
    by_cases c4 : y140.length + l1.length < 8796093022208
    · rw [if_pos c4] at H
      have LMc4 := Aside0.mk c4
      clear c4
      obtain ⟨y143, hy143⟩ : ∃ y_ : List ByteArray, y_ = (y140 ++ l1) := ⟨_, rfl⟩
      replace H : ((spec_l02Sorted.f k y143).bind fun t146 => (some t146)) = some r := by first | (rw [hy143]; with_reducible exact H) | (have H2_ := (Option.bind_some _ _).symm.trans H; rw [hy143]; with_reducible exact H2_) | (have H2_ := (Option.bind_some _ _).symm.trans H; with_reducible exact H2_) | with_reducible exact H | (rw [hy143]; exact H) | exact H
      have Ny143 := Aside0.mk hy143
      clear hy143
      replace H := Option.bind_eq_some_iff.mp H
      obtain ⟨t146, A50, H⟩ := H
      replace H : (some t146) = some r := H
      have A5 := Aside0.mk A50
      clear A50
      obtain rfl := Option.some.inj H
      go_enter Try.func5, Try.ntmps5
      go_wp2_with (first | ((with_reducible refine gate_dst (N := 5) rfl ?_); refine Kd.R_lit Kd.string _ 9 ?hg (N := 5) ?hd (xs := ([] : List ByteArray)) (inner := []) (ok := fun _ => True) (okp := fun _ => True) ?hr ?hp (fun _ hk => hk) trivial (Below.refl _ _) (Nat.le_refl _) (by simp) ?_; (case hd => rfl); (case hg => rfl); (case hr => first | (go_simp; done) | (go_simp; rfl)); (case hp => exact (Reps.none _ _)); intro v138 w6 ho7 hb hg_ hnew_; clear hg_ hnew_; (first | rw [← Ny137.out] at ho7 | (simp only [Int.reduceToNat] at ho7; rw [← Ny137.out] at ho7)); have n0_ := Aside0.mk (Kd.R_lower ho7 (below_size (by repeat (first | (with_reducible first | exact HB.out | apply below_alloc | apply pw_below_drewN | apply below_drew1) | exact HB.out)))); have n1_ := Aside0.mk (below_step (by repeat (first | (with_reducible first | exact HB.out | apply below_alloc | apply pw_below_drewN | apply below_drew1) | exact HB.out)) hb); clear HB; have HO139 := n0_; have HB := n1_; clear n0_ n1_; clear hb ho7) | ((with_reducible refine gate_builtin (b := .append) (xs := #[.tmp 5, .tmp 6]) rfl ?_); at_builtin; refine Kd.R_append_rows Kd.string (w0 := w) w.heap.size rfl (.tmp 5) (.tmp 6) 22 9 (.string ⟨#[]⟩) 16 rfl Try.underlying22 info9 rfl (by decide) (by omega) v138 y137 l0 _ _ _ (fun _ => True) (fun _ => False) rfl rfl ?aO ?aR (fun _ _ h => h) (fun _ h => h.elim) ?aF ?aB ?aS ?aL ?_; (case aR => repeat (first | exact (Kd.C_below HR0.out HB.out) | (with_reducible refine Kd.C_alloc ?_ _) | (with_reducible refine Kd.C_drewN ?_ _) | (with_reducible refine Kd.C_drew ?_))); (case aB => exact (by repeat (first | (with_reducible first | exact HB.out | apply below_alloc | apply pw_below_drewN | apply below_drew1) | exact HB.out))); (case aF => exact (fun _ _ => trivial)); (case aO => exact (by (with_reducible repeat (first | apply Kd.R_alloc | apply Kd.R_drewN | apply Kd.R_drew)); exact HO139.out)); (case aS => exact (below_size (by repeat (first | (with_reducible first | exact HB.out | apply below_alloc | apply pw_below_drewN | apply below_drew1) | exact HB.out)))); (case aL => have := LMc3.out; omega); intro v141 w8 ho hb hg hat; rw [← Ny140.out] at ho; have n0_ := Aside0.mk (hb); have n1_ := Aside0.mk (ho); clear HB; clear HO139; have HB := n0_; have HO142 := n1_; clear n0_ n1_; clear ho hb hg hat) | ((with_reducible refine gate_builtin (b := .append) (xs := #[.tmp 7, .tmp 8]) rfl ?_); at_builtin; refine Kd.R_append_rows Kd.string (w0 := w) w.heap.size rfl (.tmp 7) (.tmp 8) 22 9 (.string ⟨#[]⟩) 16 rfl Try.underlying22 info9 rfl (by decide) (by omega) v141 y140 l1 _ _ _ (fun _ => True) (fun _ => False) rfl rfl ?aO ?aR (fun _ _ h => h) (fun _ h => h.elim) ?aF ?aB ?aS ?aL ?_; (case aR => repeat (first | exact (Kd.C_below HR1.out HB.out) | (with_reducible refine Kd.C_alloc ?_ _) | (with_reducible refine Kd.C_drewN ?_ _) | (with_reducible refine Kd.C_drew ?_))); (case aB => exact (by repeat (first | (with_reducible first | exact HB.out | apply below_alloc | apply pw_below_drewN | apply below_drew1) | exact HB.out))); (case aF => exact (fun _ _ => trivial)); (case aO => exact (by (with_reducible repeat (first | apply Kd.R_alloc | apply Kd.R_drewN | apply Kd.R_drew)); exact HO142.out)); (case aS => exact (below_size (by repeat (first | (with_reducible first | exact HB.out | apply below_alloc | apply pw_below_drewN | apply below_drew1) | exact HB.out)))); (case aL => have := LMc4.out; omega); intro v144 w9 ho hb hg hat; rw [← Ny143.out] at ho; have n0_ := Aside0.mk (hb); have n1_ := Aside0.mk (ho); clear HB; clear HO142; have HB := n0_; have HO145 := n1_; clear n0_ n1_; clear ho hb hg hat; obtain ⟨Ao10, co10, eo10⟩ := Kd.R_slice HO145.out; subst eo10) | ((with_reducible refine gate_callee (f := 11) rfl ?_); refine goesL_ (some 10) rfl rfl Try.func11 (by kernel_rfl) rfl #[.slice Ao10 y143.length co10] rfl (by (try simp only [List.map_toArray, List.map_cons, List.map_nil]); first | done | rfl | (simp only [List.length_drop, List.length_take]; rfl)) ?_; (with_reducible refine (spec_l02Sorted.calls k _ _ y143 t146 _ ?side1 ?side2 A5.out).mono ?_); (case side1 => repeat (first | exact (Kd.R_reads' HO145.out).2.2 | (with_reducible refine Kd.C_alloc ?_ _) | (with_reducible refine Kd.C_drewN ?_ _) | (with_reducible refine Kd.C_drew ?_))); (case side2 => exact (Kd.R_reads' HO145.out).2.1); rintro e w11 ⟨v147, rfl, ho0, hb⟩; refine ⟨_, rfl, ?_⟩; have n0_ := Aside0.mk (Kd.R_elder' (by (with_reducible repeat (first | apply Kd.R_alloc | apply Kd.R_drewN | apply Kd.R_drew)); exact HO145.out) (Kd.R_base ho0) hb); have n1_ := Aside0.mk (Kd.R_lower (Kd.R_new' ho0 (Kd.R_lt (by (with_reducible repeat (first | apply Kd.R_alloc | apply Kd.R_drewN | apply Kd.R_drew)); exact HO145.out))) (below_size (by repeat (first | (with_reducible first | exact HB.out | apply below_alloc | apply pw_below_drewN | apply below_drew1) | exact HB.out)))); have n2_ := Aside0.mk (below_step (by repeat (first | (with_reducible first | exact HB.out | apply below_alloc | apply pw_below_drewN | apply below_drew1) | exact HB.out)) hb); clear HO145; clear HB; have HO145 := n0_; have HO148 := n1_; have HB := n2_; clear n0_ n1_ n2_; (try clear hb); (try clear hb2); (try clear hk); (try clear hi); (try clear ho0)))
      go_ret
      exact ⟨_, by first | rfl | (simp [errW_none, errW_some] <;> rfl) | (simp [*, errW_none, errW_some] <;> rfl), by (with_reducible repeat (first | apply Kd.R_alloc | apply Kd.R_drewN | apply Kd.R_drew)); exact Kd.R_mono HO148.out (fun _ hk => trivial), by repeat (first | (with_reducible first | exact HB.out | apply below_alloc | apply pw_below_drewN | apply below_drew1) | exact HB.out)⟩
    · rw [if_neg c4] at H
      exact absurd H (by simp)
  · rw [if_neg c3] at H
    exact absurd H (by simp)

/-! ### laws_toStringS: function 6 -/
def laws_toStringS.l0 : Nat → List ByteArray → List ByteArray → Int → Option (List ByteArray)
  | 0, _, _, _ => none
  | k + 1, x0, x3, x4 => if x4 < (x0.length : Int) then (if 0 ≤ x4 then (if x4 < (x3.length : Int) then (laws_toStringS.l0 k x0 (x3.set (x4 : Int).toNat (rdOf ByteArray.empty x0 x4)) (wrap64 (x4 + 1))) else (none)) else (none)) else (some x3)
def laws_toStringS.f (k : Nat) (l0 : List ByteArray) : Option (List ByteArray) := if 0 ≤ (l0.length : Int) then (if ((l0.length : Int) : Int).toNat ≤ 17592186044416 then (laws_toStringS.l0 k l0 (List.replicate ((l0.length : Int) : Int).toNat (⟨#[]⟩ : ByteArray)) 0) else (none)) else (none)
theorem laws_toStringS.mono_l : ∀ k, (∀ y0 y1 y2, LeO (laws_toStringS.l0 k y0 y1 y2) (laws_toStringS.l0 (k + 1) y0 y1 y2))
  | 0 => fun _ _ _ r h => by simp [laws_toStringS.l0] at h
  | k + 1 => by
    have ih0 := laws_toStringS.mono_l k
    · intro y0 y1 y2
      unfold laws_toStringS.l0
      repeat' first
      | (with_reducible exact ih0 _ _ _)
      | (with_reducible exact LeO.refl _)
      | (with_reducible exact LeO.none _)
      | (with_reducible refine LeO.ite ?_ ?_)
      | (with_reducible refine LeO.bind ?_ (fun _ => ?_))
      | exact ih0 _ _ _
      | exact LeO.none _
      | refine LeO.ite ?_ ?_
      | refine LeO.bind ?_ (fun _ => ?_)
theorem laws_toStringS.mono : ∀ a0 k, LeO (laws_toStringS.f k a0) (laws_toStringS.f (k + 1) a0) := by
  intro a0 k
  have ih0 := laws_toStringS.mono_l k
  unfold laws_toStringS.f
  repeat' first
      | (with_reducible exact ih0 _ _ _)
      | (with_reducible exact LeO.refl _)
      | (with_reducible exact LeO.none _)
      | (with_reducible refine LeO.ite ?_ ?_)
      | (with_reducible refine LeO.bind ?_ (fun _ => ?_))
      | exact ih0 _ _ _
      | exact LeO.none _
      | refine LeO.ite ?_ ?_
      | refine LeO.bind ?_ (fun _ => ?_)
set_option maxHeartbeats 8000000 in
set_option maxRecDepth 100000 in
theorem laws_toStringS.calls (k : Nat) (A0 : Option Addr) (c0 : Nat) (l0 : List ByteArray) (r : List ByteArray) (w : World) (hr0 : Kd.C Kd.string w A0 l0.length l0) (hc0 : l0.length ≤ c0) (h : laws_toStringS.f k l0 = some r) :
    Calls Try.prog 6 #[.slice A0 l0.length c0] w fun e w' => ∃ v0_ : Value, e = .returned (v0_) ∧ Kd.R Kd.string 9 w' w.heap.size (fun _ => True) v0_ r ∧ Below w.heap.size w w' := by
  have HR0 := Aside0.mk hr0
  have HC0 := Aside0.mk hc0
  clear hr0 hc0
  have HB := Aside0.mk (Below.refl w.heap.size w)
  have H : (if 0 ≤ (l0.length : Int) then (if ((l0.length : Int) : Int).toNat ≤ 17592186044416 then (laws_toStringS.l0 k l0 (List.replicate ((l0.length : Int) : Int).toNat (⟨#[]⟩ : ByteArray)) 0) else (none)) else (none)) = some r := h
  clear h
  by_cases c2 : 0 ≤ (l0.length : Int)
  · rw [if_pos c2] at H
    have c2b0 := eq_true c2
    have c2b1 : decide (0 ≤ (l0.length : Int)) = true := decide_eq_true c2
    clear c2
    by_cases c3 : ((l0.length : Int) : Int).toNat ≤ 17592186044416
    · rw [if_pos c3] at H
      have c3b0 := eq_true c3
      have c3b1 : decide (((l0.length : Int) : Int).toNat ≤ 17592186044416) = true := decide_eq_true c3
      clear c3
      obtain ⟨y149, hy149⟩ : ∃ y_ : List ByteArray, y_ = (List.replicate ((l0.length : Int) : Int).toNat (⟨#[]⟩ : ByteArray)) := ⟨_, rfl⟩
      replace H : (laws_toStringS.l0 k l0 y149 0) = some r := by first | (rw [hy149]; with_reducible exact H) | (have H2_ := (Option.bind_some _ _).symm.trans H; rw [hy149]; with_reducible exact H2_) | (have H2_ := (Option.bind_some _ _).symm.trans H; with_reducible exact H2_) | with_reducible exact H | (rw [hy149]; exact H) | exact H
      have Ny149 := Aside0.mk hy149
      clear hy149
      have H' := Aside0.mk H
      clear H
      go_enter Try.func6, Try.ntmps6
      go_wp2_with (first | ((with_reducible refine gate_dst (N := 7) rfl ?_); refine Kd.R_make Kd.string _ 9 rfl (N := 7) rfl 22 _ _ rfl (l0.length : Int) rfl rfl Try.underlying22 (.string ⟨#[]⟩) 16 info9 rfl (by decide) (by omega) (⟨#[]⟩ : ByteArray) (ok := fun _ => True) (okp := fun _ => True) rfl (fun _ hk => hk) trivial (of_decide_eq_true (by first | (with_reducible assumption) | assumption)) (Nat.le_trans (Nat.mul_le_mul_right _ (of_decide_eq_true (by first | (with_reducible assumption) | assumption) : (l0.length : Int).toNat ≤ 17592186044416)) (by omega)) (Below.refl _ _) (Nat.le_refl _) ?_; intro v150 w4 ho5 hb hg_ hnew_; clear hg_ hnew_; (first | rw [← Ny149.out] at ho5 | (simp only [Int.reduceToNat] at ho5; rw [← Ny149.out] at ho5)); have n0_ := Aside0.mk (Kd.R_lower ho5 (below_size (by repeat (first | (with_reducible first | exact HB.out | apply below_alloc | apply pw_below_drewN | apply below_drew1) | exact HB.out)))); have n1_ := Aside0.mk (below_step (by repeat (first | (with_reducible first | exact HB.out | apply below_alloc | apply pw_below_drewN | apply below_drew1) | exact HB.out)) hb); clear HB; have HO151 := n0_; have HB := n1_; clear n0_ n1_; clear hb ho5))
      go_loopg [4] k (fun kq v4 w' => ∃ (x3_1 : List ByteArray) (x4_1 : Int), v4 = .int .i64 x4_1 ∧ Aside0 (laws_toStringS.l0 kq l0 x3_1 x4_1 = some r) ∧ Aside0 (kq ≤ k) ∧ Aside0 (Kd.R Kd.string 9 w' w.heap.size (fun _ => True) v150 x3_1) ∧ Aside0 (Below w.heap.size w w'))
      case atStart => exact ⟨(y149), (0), (by first | rfl | (simp; done) | (simp [*]; done)), H', ⟨Nat.le_refl _⟩, ⟨by (with_reducible repeat (first | apply Kd.R_alloc | apply Kd.R_drewN | apply Kd.R_drew)); exact HO151.out⟩, ⟨by repeat (first | (with_reducible first | exact HB.out | apply below_alloc | apply pw_below_drewN | apply below_drew1) | exact HB.out)⟩⟩
      case round =>
        clear H'
        try clear c2
        try clear c2b0
        try clear c2b1
        try clear p2
        try clear c3
        try clear c3b0
        try clear c3b1
        obtain ⟨x3_1, x4_1, rfl, HA, HK1, HO_3, HB⟩ := hrel
        cases gk with
        | zero => exact absurd HA.out (by simp [laws_toStringS.l0])
        | succ k1 =>
          have H := HA.out
          clear HA
          simp only [laws_toStringS.l0] at H
          by_cases c6 : x4_1 < (l0.length : Int)
          · rw [if_pos c6] at H
            have c6b0 : decide (x4_1 < (l0.length : Int)) = true := decide_eq_true c6
            clear c6
            by_cases c7 : 0 ≤ x4_1
            · rw [if_pos c7] at H
              have c7b0 : decide (0 ≤ x4_1) = true := decide_eq_true c7
              clear c7
              by_cases c8 : x4_1 < (x3_1.length : Int)
              · rw [if_pos c8] at H
                have c8b0 : decide (x4_1 < (x3_1.length : Int)) = true := decide_eq_true c8
                clear c8
                obtain ⟨y153, hy153⟩ : ∃ y_ : List ByteArray, y_ = (x3_1.set (x4_1 : Int).toNat (rdOf ByteArray.empty l0 x4_1)) := ⟨_, rfl⟩
                replace H : (laws_toStringS.l0 k1 l0 y153 (wrap64 (x4_1 + 1))) = some r := by first | (rw [hy153]; with_reducible exact H) | (have H2_ := (Option.bind_some _ _).symm.trans H; rw [hy153]; with_reducible exact H2_) | (have H2_ := (Option.bind_some _ _).symm.trans H; with_reducible exact H2_) | with_reducible exact H | (rw [hy153]; exact H) | exact H
                have Ny153 := Aside0.mk hy153
                clear hy153
                have H' := Aside0.mk H
                clear H
                have p152 : 0 ≤ (x4_1 : Int) := of_decide_eq_true (by first | (with_reducible assumption) | assumption)
                have q152 : x4_1 < (l0.length : Int) := of_decide_eq_true (by first | (with_reducible assumption) | assumption)
                obtain ⟨ad152, e152, hx152_0⟩ := Kd.at_string HR0.out x4_1 p152 q152
                cases e152
                replace hx152_0 := (HB.out.cell (World.block_lt_of_cell? w _ hx152_0)).trans hx152_0
                replace p152 := eq_true p152
                replace q152 := eq_true q152
                have p9 : 0 ≤ (x4_1 : Int) := of_decide_eq_true (by first | (with_reducible assumption) | assumption)
                have q9 : (x4_1 : Int) < ((x3_1.length : Int) : Int) := of_decide_eq_true (by first | (with_reducible assumption) | assumption)
                obtain ⟨go9, co9, eo9, gb9, gl9, cl9, HG9⟩ := Kd.R_form HO_3.out (by omega)
                (first | cases eo9 | (injection eo9 with ea_ en_ ec_; (first | subst ea_ | (injection ea_ with ea_; subst ea_)); subst ec_; clear en_))
                have GB9 := Aside0.mk gb9
                have GG9 := Aside0.mk HG9
                clear gb9 gl9 HG9
                obtain ⟨hx9_0, hf9_0⟩ := Kd.R_celln (⟨#[]⟩ : ByteArray) HO_3.out (x4_1 : Int) p9 q9
                replace p9 := eq_true p9
                replace q9 := eq_true q9
                have HP10 := Kd.R_putg HO_3.out (x4_1 : Int) (rdOf ByteArray.empty l0 x4_1)
                go_wp2_with (first | ((with_reducible refine gate_store (t := 9) (p := 20) rfl ?_); refine store_event (t := 9) (p := 20) (v := ?vo_w11) (w1 := (wr.setCell ⟨go9, (x4_1 : Int).toNat, none⟩ (.string (rdOf ByteArray.empty l0 x4_1)))) ?hg ?ho ?hn ?hr ?_; (case ho => rfl); (case hg => rfl); (case hn => rfl); (case hr => first | (go_simp; done) | (go_simp; rfl)); intro w11 hw; have hg : wr.grownBy w11 (some go9) := (by rw [hw]; exact HP10.2); have hp_ : Kd.R Kd.string 9 w11 w.heap.size (fun _ => True) (.slice (some ⟨go9, 0, none⟩) x3_1.length co9) y153 := (by rw [hw, Ny153.out]; exact HP10.1); clear HP10; have n0_ := Aside0.mk (hp_); have n1_ := Aside0.mk ((by rw [hw]; exact below_set (HB.out) GB9.out : Below w.heap.size w w11)); clear HO_3; clear HB; have HO_3 := n0_; have HB := n1_; clear n0_ n1_; clear hg hw hp_))
                go_roundg k1
                case measure => have := HK1.out; omega
                case rel => exact ⟨(y153), (wrap64 (x4_1 + 1)), (by first | rfl | (simp; done) | (simp [*]; done)), H', ⟨by have := HK1.out; omega⟩, ⟨by (with_reducible repeat (first | apply Kd.R_alloc | apply Kd.R_drewN | apply Kd.R_drew)); exact HO_3.out⟩, ⟨by repeat (first | (with_reducible first | exact HB.out | apply below_alloc | apply pw_below_drewN | apply below_drew1) | exact HB.out)⟩⟩
              · rw [if_neg c8] at H
                exact absurd H (by simp)
            · rw [if_neg c7] at H
              exact absurd H (by simp)
          · rw [if_neg c6] at H
            have c6b0 : decide (x4_1 < (l0.length : Int)) = false := decide_eq_false c6
            clear c6
            obtain rfl := Option.some.inj H
            go_wp2
            go_ret
            exact ⟨_, by first | rfl | (simp [errW_none, errW_some] <;> rfl) | (simp [*, errW_none, errW_some] <;> rfl), by (with_reducible repeat (first | apply Kd.R_alloc | apply Kd.R_drewN | apply Kd.R_drew)); exact HO_3.out, by repeat (first | (with_reducible first | exact HB.out | apply below_alloc | apply pw_below_drewN | apply below_drew1) | exact HB.out)⟩
    · rw [if_neg c3] at H
      exact absurd H (by simp)
  · rw [if_neg c2] at H
    exact absurd H (by simp)

/-! ### impl_NamesBoth: function 7 -/
set_option maxHeartbeats 4000000 in
set_option maxRecDepth 100000 in
theorem impl_NamesBoth.grow (n : Nat) (w : World) (hn : n ≤ 4194304) : Calls Try.prog 16 #[.slice none 0 0, .int .i64 (n : Int)] w fun e w' => ∃ v : Value, e = .returned v ∧ Kd.R Kd.string 9 w' w.heap.size (fun _ => True) v [] ∧ Below w.heap.size w w' := by
  by_cases h0 : n = 0
  · subst h0
    go_enter Try.func16, Try.ntmps16
    go_wp2
    go_ret
    exact ⟨_, rfl, Kd.R_nil _ _ _ _ _, Below.refl _ _⟩
  · have h1 : 0 < (n : Int) := by omega
    have h2 : ¬ (n : Int) < 0 := by omega
    have h3 : n ≤ 281474976710656 := by omega
    have h4 : (n : Int) ≤ 9223372036854775807 := by omega
    have HN := Aside0.mk hn
    have HZ := Aside0.mk h0
    clear h0 hn
    go_enter Try.func16, Try.ntmps16
    go_wp2_with (first | ((with_reducible refine gate_builtin (b := .append) (xs := #[.tmp 20, .tmp 21]) rfl ?_); at_builtin; refine Kd.R_append_zeros Kd.string (w0 := w) w.heap.size rfl (.tmp 20) (.tmp 21) 22 3 9 (.string ⟨#[]⟩) 16 rfl Try.underlying22 Try.underlying3 info9 rfl (by decide) (by omega) (.slice none 0 0) [] (⟨#[]⟩ : ByteArray) (n : Int) (fun _ => True) rfl rfl rfl (fun _ _ => trivial) (Kd.R_nil _ _ _ _ _) (by omega) (Below.refl _ _) (Nat.le_refl _) (by have := HN.out; simp only [List.length_nil, Int.toNat_natCast]; omega) ?_; intro v1 w1 hr1 hb1 hg1 hat1; clear hg1 hat1; rw [List.nil_append, Int.toNat_natCast] at hr1; obtain ⟨A1, c1, e1⟩ := Kd.R_slice hr1; subst e1; rw [List.length_replicate] at hr1; have hr2 := Kd.R_take hr1 (Nat.zero_le _); rw [List.take_zero] at hr2; have RR := Aside0.mk hr2; have BB := Aside0.mk hb1; clear hr1 hr2 hb1; simp only [List.length_replicate]))
    go_ret
    exact ⟨_, rfl, RR.out, BB.out⟩
set_option maxHeartbeats 8000000 in
set_option maxRecDepth 100000 in
theorem impl_NamesBoth.concat (B : Nat) (A0 : Option Addr) (c0 : Nat) (l0 : List ByteArray) (A1 : Option Addr) (c1 : Nat) (l1 : List ByteArray) (w : World) (hr0 : Kd.C Kd.string w A0 l0.length l0) (hc0 : l0.length ≤ c0) (hr1 : Kd.C Kd.string w A1 l1.length l1) (hc1 : l1.length ≤ c1) (hl : l0.length + l1.length ≤ 4194304)
    (hB : B < w.heap.size) (q0 : w.cell? ⟨B, 0, none⟩ = some (.slice A0 l0.length c0)) (q1 : w.cell? ⟨B, 1, none⟩ = some (.slice A1 l1.length c1)) :
    Calls Try.prog 12 #[.slice (some ⟨B, 0, none⟩) 2 2] w fun e w' => ∃ v : Value, e = .returned v ∧ Kd.R Kd.string 9 w' w.heap.size (fun _ => True) v (l0 ++ l1) ∧ Below w.heap.size w w' := by
  have HR0 := Aside0.mk hr0
  have HR1 := Aside0.mk hr1
  have HC0 := Aside0.mk hc0
  have HC1 := Aside0.mk hc1
  have HB := Aside0.mk hB
  obtain ⟨n0, hn0⟩ : ∃ n, n = l0.length := ⟨_, rfl⟩
  obtain ⟨n1, hn1⟩ : ∃ n, n = l1.length := ⟨_, rfl⟩
  rw [← hn0] at q0 hl
  rw [← hn1] at q1 hl
  have HN0 := Aside0.mk hn0
  have HN1 := Aside0.mk hn1
  have HL := Aside0.mk hl
  have hw1 : wrap64 (n0 : Int) = (n0 : Int) := by unfold wrap64; omega
  have hw3 : wrap64 ((0 : Int) + (n0 : Int)) = (n0 : Int) := by unfold wrap64; omega
  have hw2 : wrap64 ((n0 : Int) + (n1 : Int)) = ((n0 + n1 : Nat) : Int) := by unfold wrap64; omega
  have hp0 : ¬ (n0 : Int) < 0 := Int.not_lt.2 (Int.natCast_nonneg _)
  have hp1 : ¬ ((n0 + n1 : Nat) : Int) < 0 := Int.not_lt.2 (Int.natCast_nonneg _)
  have hgrow := impl_NamesBoth.grow (n0 + n1) w (by omega)
  clear hr0 hr1 hc0 hc1 hn0 hn1 hl hB
  obtain ⟨wr0, hwr0⟩ : ∃ x : World, x = w := ⟨_, rfl⟩
  have HW := Aside0.mk hwr0
  go_enter Try.func12, Try.ntmps12
  go_wp2
  go_loopg [3, 11] 2 (fun g s3 s11 wr => wr = w ∧ ((s3 = .int .i64 0 ∧ s11 = .int .i64 0 ∧ 2 ≤ g) ∨ (s3 = .int .i64 (n0 : Int) ∧ s11 = .int .i64 1 ∧ 1 ≤ g) ∨ (s3 = .int .i64 ((n0 + n1 : Nat) : Int) ∧ s11 = .int .i64 2)))
  case atStart => exact ⟨rfl, .inl ⟨rfl, rfl, Nat.le_refl _⟩⟩
  case round =>
    obtain ⟨rfl, hh⟩ := hrel
    rcases hh with ⟨rfl, rfl, hg⟩ | ⟨rfl, rfl, hg⟩ | ⟨rfl, rfl⟩
    · go_wp2
      go_roundg 1
      case measure => omega
      case rel => exact ⟨rfl, .inr (.inl ⟨by first | rfl | rw [hw1] | simp, by first | rfl | go_num, Nat.le_refl _⟩)⟩
    · go_wp2
      go_roundg 0
      case measure => omega
      case rel => exact ⟨rfl, .inr (.inr ⟨by first | rfl | rw [hw2] | simp, by first | rfl | go_num⟩)⟩
    · obtain rfl := HW.out
      go_wp2_with (go_at_call 16; refine hgrow.mono ?_; rintro e w' ⟨v0, rfl, hR, hBw⟩; have RR := Aside0.mk hR; have BB := Aside0.mk hBw; clear hR hBw)
      have Q0 := Aside0.mk q0
      have Q1 := Aside0.mk q1
      clear q0 q1
      go_loopg [6, 27] 2 (fun g s6 s27 wr => ∃ i : Nat, i ≤ 2 ∧ 2 - i ≤ g ∧ s27 = .int .i64 (i : Int) ∧ Aside0 (Kd.R Kd.string 9 wr wr0.heap.size (fun _ => True) s6 (if i = 0 then [] else if i = 1 then l0 else l0 ++ l1)) ∧ Aside0 (Below wr0.heap.size wr0 wr))
      case atStart => exact ⟨0, by omega, by omega, rfl, ⟨by simpa using RR.out⟩, BB⟩
      case round =>
        obtain ⟨i, hi, hg, rfl, RI, BI⟩ := hrel
        have e0 := (BI.out.cell (p := ⟨B, 0, none⟩) HB.out).trans Q0.out
        have e1 := (BI.out.cell (p := ⟨B, 1, none⟩) HB.out).trans Q1.out
        have hi' : i = 0 ∨ i = 1 ∨ i = 2 := by omega
        clear hi
        rcases hi' with rfl | rfl | rfl
        · rw [if_pos rfl] at RI
          have HG := Aside0.mk hg
          clear hg
          go_wp2_with (first | ((with_reducible refine gate_builtin (b := .append) (xs := #[.tmp 31, .tmp 32]) rfl ?_); at_builtin; refine Kd.R_append_rows Kd.string (w0 := wr0) wr0.heap.size rfl (.tmp 31) (.tmp 32) 22 9 (.string ⟨#[]⟩) 16 rfl Try.underlying22 info9 rfl (by decide) (by omega) _ [] l0 A0 n0 c0 (fun _ => True) (fun _ => False) rfl rfl RI.out (by have z := Kd.C_below HR0.out BI.out; rw [← HN0.out] at z; exact z) (fun _ _ h => h) (fun _ h => h.elim) (fun _ _ => trivial) BI.out BI.out.size (by have := HL.out; simp only [List.length_nil]; omega) ?_; intro v1 w1 ho hb hg_ hat_; clear hg_ hat_; have RR2 := Aside0.mk ho; have BB2 := Aside0.mk hb; clear ho hb))
          go_roundg 1
          case measure => have := HG.out; omega
          case rel => exact ⟨1, by omega, by omega, by first | rfl | go_num, ⟨by simpa using RR2.out⟩, BB2⟩
        · rw [if_neg (by decide), if_pos rfl] at RI
          have HG := Aside0.mk hg
          clear hg
          go_wp2_with (first | ((with_reducible refine gate_builtin (b := .append) (xs := #[.tmp 31, .tmp 32]) rfl ?_); at_builtin; refine Kd.R_append_rows Kd.string (w0 := wr0) wr0.heap.size rfl (.tmp 31) (.tmp 32) 22 9 (.string ⟨#[]⟩) 16 rfl Try.underlying22 info9 rfl (by decide) (by omega) _ l0 l1 A1 n1 c1 (fun _ => True) (fun _ => False) rfl rfl RI.out (by have z := Kd.C_below HR1.out BI.out; rw [← HN1.out] at z; exact z) (fun _ _ h => h) (fun _ h => h.elim) (fun _ _ => trivial) BI.out BI.out.size (by have := HL.out; rw [← HN0.out]; omega) ?_; intro v1 w1 ho hb hg_ hat_; clear hg_ hat_; have RR2 := Aside0.mk ho; have BB2 := Aside0.mk hb; clear ho hb))
          go_roundg 0
          case measure => have := HG.out; omega
          case rel => exact ⟨2, by omega, by omega, by first | rfl | go_num, ⟨by simpa using RR2.out⟩, BB2⟩
        · rw [if_neg (by decide), if_neg (by decide)] at RI
          go_wp2
          go_ret
          exact ⟨_, rfl, RI.out, BI.out⟩
open Go.Sort in
theorem impl_NamesBoth.put_heap (w : World) (g : Nat) (D : Array (List UInt8)) (cur : Array Value) (e : TypeId) (h : w.heap[g]? = some (.cells cur e (0, 0))) : (putRow encStr w g 0 D).heap[g]? = some (.cells (putCells encStr 0 D cur) e (0, 0)) := by
  simp [putRow, mapBlock, Array.getElem?_modify, h, onCells]
open Go.Sort in
theorem impl_NamesBoth.put_below {B : Nat} {w w1 : World} (h : Go.RowKit.Below B w w1) (g off : Nat) (hg : B ≤ g) (D : Array (List UInt8)) : Go.RowKit.Below B w (putRow encStr w1 g off D) :=
  ⟨h.os, h.tape, h.output, by rw [size_putRow]; exact h.size, fun k hk => by
    show (w1.heap.modify g _)[k]? = _
    rw [Array.getElem?_modify, if_neg (by omega)]
    exact h.block k hk⟩
theorem impl_NamesBoth.grow_below {B : Nat} {w w1 : World} (h : Go.RowKit.Below B w w1) (hB : B ≤ w1.heap.size) (os : Array Obj) : Go.RowKit.Below B w (Go.Sort.grow w1 os) :=
  ⟨h.os, h.tape, h.output, by rw [Go.Sort.size_grow]; have := h.size; omega, fun k hk => (Go.Sort.heap_grow_old w1 os (by omega)).trans (h.block k hk)⟩
open Go.Sort in
theorem impl_NamesBoth.out (w1 : World) (g base n cap q : Nat) (D : Array (List UInt8)) (cur : Array Value) (r : List (List UInt8)) (hh : w1.heap[g]? = some (.cells cur 9 (0, 0))) (hb : base ≤ g) (hmc : r.length ≤ cap) (hcap : cap ≤ maxLen) (hs : cur.size = cap) (hD : r.length ≤ D.size) (hDc : D.size ≤ cap)
    (hr : ∀ j, j < r.length → D[j]! = r[j]!) : Kd.R Kd.string 9 (putRow encStr (Sort.ahead w1 q) g 0 D) base (fun _ => True) (.slice (some ⟨g, 0, none⟩) r.length cap) (r.map fun s => (⟨s.toArray⟩ : ByteArray)) := by
  have hh4 := impl_NamesBoth.put_heap (Sort.ahead w1 q) g D cur 9 hh
  have hs4 : (putCells encStr 0 D cur).size = cap := by simp [putCells, hs]
  have hlen : ((putCells encStr 0 D cur).toList.take (r.length * 1)).length = r.length * 1 := by
    rw [List.length_take, show (putCells encStr 0 D cur).toList.length = cap from by simpa using hs4]
    omega
  refine ⟨fun _ _ => trivial, (putCells encStr 0 D cur).toList.take (r.length * 1), ⟨by rw [List.length_map]; exact hlen, .inr ⟨g, cap, _, by rw [List.length_map], hb, hh4, by rw [List.length_map]; exact hmc, hcap, by show _ = cap * 1; rw [hs4, Nat.mul_one], by rw [List.length_map]; rfl⟩⟩, by rw [List.length_map]; exact hlen, fun j p hp => ?_⟩
  rw [List.getElem?_map] at hp
  obtain ⟨s, hs1, rfl⟩ := Option.map_eq_some_iff.1 hp
  obtain ⟨hj, e⟩ := List.getElem?_eq_some_iff.1 hs1
  have hj2 : j < cur.size := by rw [hs]; omega
  have h0 : ((putCells encStr 0 D cur).toList.take (r.length * 1))[j]? = some (encStr s) := by
    rw [List.getElem?_take_of_lt (by omega), Array.getElem?_toList]
    simp only [putCells, Array.getElem?_mapIdx, Array.getElem?_eq_getElem hj2, Option.map_some]
    rw [if_pos (by omega), Nat.sub_zero, hr j hj, getElem!_pos r j hj, e]
  have hd : (((putCells encStr 0 D cur).toList.take (r.length * 1)).drop (j * 1)).take 1 = [encStr s] := by
    rw [Nat.mul_one j]
    obtain ⟨l0, e0⟩ := List.getElem?_eq_some_iff.1 h0
    rw [List.drop_eq_getElem_cons l0, e0]
    rfl
  exact hd
open Go.Sort in
theorem impl_NamesBoth.inn (W : World) (xs : List ByteArray) (g : Nat) (cur : Array Value) (inner : List Value) (hh : W.heap[g]? = some (.cells cur 9 (0, 0))) (hi : cur.toList.take (xs.length * 1) = inner) {M : ByteArray → List Value → Prop} (hM : ∀ x cs, M x cs → cs = [.string x]) (hr : Reps M 1 xs inner) : Holds encStr W g 0 (xs.map (·.data.toList)).toArray := by
  intro t ht
  have ht' : t < xs.length := by simpa using ht
  have hx := hM _ _ (hr.2 t _ (List.getElem?_eq_getElem ht'))
  have hin : inner[t]? = some (.string xs[t]) := by
    have h1 : ((inner.drop (t * 1)).take 1)[0]? = some (.string xs[t]) := by
      rw [hx]
      rfl
    rw [List.getElem?_take_of_lt (by omega), List.getElem?_drop, Nat.mul_one, Nat.add_zero] at h1
    exact h1
  have hc : cur[t]? = some (.string xs[t]) := by
    rw [← hi, List.getElem?_take_of_lt (by omega), Array.getElem?_toList] at hin
    exact hin
  have e2 : (xs.map (·.data.toList)).toArray[t]! = xs[t].data.toList := by rw [getElem!_pos (xs.map (·.data.toList)).toArray t ht]; simp
  rw [e2, Nat.zero_add]
  exact ⟨by simp [World.cell?, hh, hc, encStr], by simp [World.frozen?, hh]⟩
def impl_NamesBoth.f (l0 l1 : List ByteArray) : Option (List ByteArray) := if l0.length + l1.length ≤ 4194304 then some ((Lib.compact (((l0 ++ l1).map (·.data.toList)).mergeSort fun x y => decide (x ≤ y))).map fun s => (⟨s.toArray⟩ : ByteArray)) else none
open Go.Sort Go.Proofs Go.Lib in
theorem impl_NamesBoth.rest (w w1 W2 : World) (v : Value) (xs : List ByteArray) (hl : xs.length ≤ 4194304) (hw1 : Go.RowKit.Below w.heap.size w w1) (hs1 : w.heap.size ≤ w1.heap.size) (hR : Kd.R Kd.string 9 W2 w1.heap.size (fun _ => True) v xs) (hB : Go.RowKit.Below w1.heap.size w1 W2) :
    Calls Try.prog 13 #[v] W2 fun e W3 => e = .returned (.tuple #[]) ∧ Calls Try.prog 14 #[v] W3 fun e W4 => ∃ v0, e = .returned v0 ∧ Kd.R Kd.string 9 W4 w.heap.size (fun _ => True) v0 ((Lib.compact ((xs.map (·.data.toList)).mergeSort fun x y => decide (x ≤ y))).map fun s => (⟨s.toArray⟩ : ByteArray)) ∧ Go.RowKit.Below w.heap.size w W4 := by
  have hB2 : Go.RowKit.Below w.heap.size w W2 := hw1.trans (hB.mono hs1)
  by_cases h0 : xs = []
  · subst h0
    obtain ⟨A, c, rfl⟩ := Kd.R_slice hR
    refine (Any.slices_Sort_string_none Try.lays190 A c W2).mono ?_
    rintro e W3 ⟨rfl, rfl⟩
    refine ⟨rfl, (Any.slices_Compact_string_empty Try.lays194 A c _).mono ?_⟩
    rintro e W4 ⟨rfl, rfl⟩
    have e0 : ((Lib.compact ((([] : List ByteArray).map (·.data.toList)).mergeSort fun x y => decide (x ≤ y))).map fun s => (⟨s.toArray⟩ : ByteArray)) = [] := by simp [Lib.compact, Lib.compactUpTo]
    refine ⟨_, rfl, ?_, hB2⟩
    rw [e0]
    exact Kd.R_lower hR hs1
  · obtain ⟨_, inner, ⟨hlen, hor⟩, hreps⟩ := hR
    rcases hor with ⟨rfl, hz⟩ | ⟨g, cap, cur, rfl, hg, hh, hn, hcap, hsz, htake⟩
    · exact absurd (List.eq_nil_of_length_eq_zero hz) h0
    have hsz2 : cur.size = cap := by rw [show cur.size = cap * 1 from hsz, Nat.mul_one]
    have hH : Holds encStr W2 g 0 (xs.map (·.data.toList)).toArray := impl_NamesBoth.inn W2 xs g cur inner hh htake (fun x cs h => h) hreps
    have hgs : g < W2.heap.size := (Array.getElem?_eq_some_iff.1 hh).1
    have hsort := Any.slices_Sort_string Try.lays190 g 0 cap (xs.map (·.data.toList)) W2 hH hgs (by rw [List.length_map]; omega)
    obtain ⟨ss, hss⟩ : ∃ ss, ss = ((xs.map (·.data.toList)).mergeSort fun x y => decide (x ≤ y)) := ⟨_, rfl⟩
    rw [← hss, List.length_map] at hsort
    rw [← hss]
    have hsl : ss.length = xs.length := by rw [hss, List.length_mergeSort, List.length_map]
    refine Calls.mono (P := Try.prog) hsort ?_
    rintro e W3 ⟨rfl, n, os, rfl⟩
    have hH3 : Holds encStr (Go.Sort.grow (putRow encStr (Sort.ahead W2 n) g 0 ss.toArray) os) g 0 ss.toArray :=
      holds_grow _ _ _ _ _ _ (by rw [size_putRow]; exact hgs) (holds_putRow encStr _ g 0 (xs.map (·.data.toList)).toArray ss.toArray (holds_ahead _ _ _ _ _ _ hH) (by simpa using hsl))
    have hcomp := Any.slices_Compact_string Try.lays194 g 0 cap ss (Go.Sort.grow (putRow encStr (Sort.ahead W2 n) g 0 ss.toArray) os) hH3 (by omega) (by omega)
    rw [hsl] at hcomp
    refine ⟨rfl, Calls.mono (P := Try.prog) hcomp ?_⟩
    rintro e W4 ⟨rfl, q, rfl⟩
    have hm : (Lib.compact ss).length ≤ xs.length := by
      unfold Lib.compact compactUpTo
      rw [List.length_map]
      have := List.length_filter_le (keeps ss.toArray) (List.range ss.length)
      rw [List.length_range] at this
      omega
    have hh3 : (Go.Sort.grow (putRow encStr (Sort.ahead W2 n) g 0 ss.toArray) os).heap[g]? = some (.cells (putCells encStr 0 ss.toArray cur) 9 (0, 0)) := by
      rw [heap_grow_old _ _ (by rw [size_putRow]; exact hgs)]
      exact impl_NamesBoth.put_heap (Sort.ahead W2 n) g _ cur 9 hh
    refine ⟨_, rfl, impl_NamesBoth.out _ g w.heap.size xs.length cap q _ _ _ hh3 (by omega) (by omega) hcap (by simp [putCells, hsz2]) (by simp) (by simp; omega) (fun j hj => ?_), ?_⟩
    · rw [getElem!_pos _ j (by simp; omega), getElem!_pos _ j hj]
      simp [List.getElem_append_left, hj]
    · refine impl_NamesBoth.put_below ?_ g 0 (by omega) _
      have h5 : Go.RowKit.Below w.heap.size w (putRow encStr (Sort.ahead W2 n) g 0 ss.toArray) := impl_NamesBoth.put_below (w1 := Sort.ahead W2 n) ⟨hB2.os, hB2.tape, hB2.output, hB2.size, hB2.block⟩ g 0 (by omega) _
      have h6 := impl_NamesBoth.grow_below h5 (by rw [size_putRow]; exact hB2.size) os
      exact ⟨h6.os, h6.tape, h6.output, h6.size, h6.block⟩
set_option maxHeartbeats 4000000 in
theorem impl_NamesBoth.calls (A0 : Option Addr) (c0 : Nat) (l0 : List ByteArray) (A1 : Option Addr) (c1 : Nat) (l1 : List ByteArray) (r : List ByteArray) (w : World) (hr0 : Kd.C Kd.string w A0 l0.length l0) (hc0 : l0.length ≤ c0) (hr1 : Kd.C Kd.string w A1 l1.length l1) (hc1 : l1.length ≤ c1) (h : impl_NamesBoth.f l0 l1 = some r) :
    Calls Try.prog 7 #[.slice A0 l0.length c0, .slice A1 l1.length c1] w fun e w' => ∃ v0_ : Value, e = .returned (v0_) ∧ Kd.R Kd.string 9 w' w.heap.size (fun _ => True) v0_ r ∧ Below w.heap.size w w' := by
  unfold impl_NamesBoth.f at h
  by_cases hl : l0.length + l1.length ≤ 4194304
  · rw [if_pos hl] at h
    obtain rfl := Option.some.inj h
    clear h
    have hb1 : Go.RowKit.Below w.heap.size w (w.alloc (.cells #[.slice A0 l0.length c0, .slice A1 l1.length c1] 22)) := (Below.refl _ _).alloc (Nat.le_refl _) _
    have hcon := impl_NamesBoth.concat w.heap.size A0 c0 l0 A1 c1 l1 (w.alloc (.cells #[.slice A0 l0.length c0, .slice A1 l1.length c1] 22)) (Kd.C_below hr0 hb1) hc0 (Kd.C_below hr1 hb1) hc1 hl (by simp) (by simp) (by simp)
    have hrest := fun v W2 => impl_NamesBoth.rest w (w.alloc (.cells #[.slice A0 l0.length c0, .slice A1 l1.length c1] 22)) W2 v (l0 ++ l1) (by rw [List.length_append]; exact hl) hb1 (by simp)
    have HR := Aside0.mk hrest
    clear hrest hr0 hr1 hc0 hc1 hb1 hl
    generalize ((Lib.compact (((l0 ++ l1).map (·.data.toList)).mergeSort fun x y => decide (x ≤ y))).map fun s => (⟨s.toArray⟩ : ByteArray)) = r at HR ⊢
    generalize l0.length = n0 at hcon HR ⊢
    generalize l1.length = n1 at hcon HR ⊢
    go_enter Try.func7, Try.ntmps7
    go_wp2_with (first | (go_at_call 12; refine hcon.mono ?_; rintro e w' ⟨v, rfl, hR, hB⟩; have hs := HR.out v w' hR hB; clear hR hB) | (go_at_call 13; refine hs.mono ?_; rintro e w' ⟨rfl, hc⟩; clear hs) | (go_at_call 14; refine hc.mono ?_; rintro e w' ⟨v0, rfl, hR2, hB2⟩; clear hc; have R2 := Aside0.mk hR2; have B2 := Aside0.mk hB2; clear hR2 hB2))
    go_ret
    exact ⟨_, rfl, R2.out, B2.out⟩
  · rw [if_neg hl] at h
    cases h


end Go.Proofs.Ytmhbikkldbcgkaa.Q
