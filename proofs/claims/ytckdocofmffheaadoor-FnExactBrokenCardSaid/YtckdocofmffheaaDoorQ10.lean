/- Printed for this claim by a program of this session (wip/tools/xprint.py) out of the translation: what each Go function comes to, and that it comes to it. Not trusted: Lean checks it. -/
import Derived.Test.YtckdocofmffheaaDoorQ0
import Derived.Test.YtckdocofmffheaaDoorQ9
namespace Go.Proofs.YtckdocofmffheaaDoor.Q
open Go.RowKit Go.Proofs.YtckdocofmffheaaDoorW.PrintWords Go.Proofs.YtckdocofmffheaaDoorW.PrintLast Go.Proofs.YtckdocofmffheaaDoorW.PrintMore
attribute [local go_sem] max2_int min2_int max_two min_two max_three min_three max_four min_four   -- for this text's walks alone
set_option linter.unusedVariables false
set_option linter.unusedSimpArgs false

/-! ### impl_isLabelKind: function 64 -/
def impl_isLabelKind.f (a0 : Int) : Option (Bool) := (impl_in.f a0 1 5).bind fun t185 => (some t185)
set_option maxHeartbeats 8000000 in
set_option maxRecDepth 100000 in
theorem impl_isLabelKind.calls (a0 : Int) (r : Bool) (w : World) (h : impl_isLabelKind.f a0 = some r) :
    Calls Tryd.prog 64 #[.int .i64 a0] w fun e w' => e = .returned (.bool r) ∧ Drawn0 w w' := by
  have H : ((impl_in.f a0 1 5).bind fun t185 => (some t185)) = some r := h
  clear h
  replace H := Option.bind_eq_some_iff.mp H
  obtain ⟨t185, A20, H⟩ := H
  replace H : (some t185) = some r := H
  have A2 := Aside0.mk A20
  clear A20
  obtain rfl := Option.some.inj H
  go_enter Tryd.func64, Tryd.ntmps64
  go_wp2_with (first | ((with_reducible refine gate_callee (f := 100) rfl ?_); refine goesL_ (some 4) rfl rfl Tryd.func100 (by kernel_rfl) rfl #[.int .i64 a0, .int .i64 1, .int .i64 5] rfl (by (try simp only [List.map_toArray, List.map_cons, List.map_nil]); first | done | rfl | (simp only [List.length_drop, List.length_take]; rfl)) ?_; (with_reducible refine (impl_in.calls a0 1 5 t185 _ A2.out).mono ?_); rintro e w' ⟨rfl, ⟨nd, rfl⟩⟩; refine ⟨_, rfl, ?_⟩))
  go_ret
  exact ⟨by first | rfl | (simp; done) | (simp [*]; done), by repeat (first | exact Drawn0.refl _ | apply Drawn0.step)⟩

/-! ### stringslite_Index: function 129 -/
def stringslite_Index.f (a0 : ByteArray) (a1 : ByteArray) : Option Int := match a1.data.toList with
  | [c] => some (Lib.indexByte a0.data.toList c)
  | _ => none
set_option maxHeartbeats 4000000 in
set_option maxRecDepth 100000 in
theorem stringslite_Index.one (s : ByteArray) (c : UInt8) (w : World) :
    Calls Tryd.prog 129 #[.string s, .string ⟨#[c]⟩] w fun e w' => e = .returned (.int .i64 (Lib.indexByte s.data.toList c)) ∧ w' = w := by
  by_cases hs : ([c] == s.toList) = true
  · have hl : Lib.indexByte s.data.toList c = 0 := by
      have h1 : [c] = s.toList := beq_iff_eq.1 hs
      rw [ByteArray.toList_eq] at h1
      rw [← h1]
      simp [Lib.indexByte]
    have HL := Aside0.mk hl
    clear hl
    go_enter Tryd.func129, Tryd.ntmps129
    go_wp2
    go_ret
    exact ⟨by rw [HL.out]; rfl, rfl⟩
  · have hs' : ([c] == s.toList) = false := by simpa using hs
    clear hs
    go_enter Tryd.func129, Tryd.ntmps129
    go_wp2
    rw [run_callFunc_extern Tryd.func152 (by kernel_rfl) (by kernel_rfl) (by kernel_rfl) (e := Extern.BytealgIndexByte.indexByte) (by kernel_rfl), Lib.run_indexByteString]
    simp only [Result.andThen]
    rw [Oper.upon_value]
    go_wp2
    go_ret
    exact ⟨rfl, rfl⟩
theorem stringslite_Index.calls (a0 : ByteArray) (a1 : ByteArray) (r : Int) (w : World) (h : stringslite_Index.f a0 a1 = some r) :
    Calls Tryd.prog 129 #[.string a0, .string a1] w fun e w' => e = .returned (.int .i64 r) ∧ Drawn0 w w' := by
  obtain ⟨⟨l⟩⟩ := a1
  unfold stringslite_Index.f at h
  rcases l with _ | ⟨c, _ | ⟨d, l⟩⟩
  · cases h
  · obtain rfl := Option.some.inj h
    exact (stringslite_Index.one a0 c w).mono fun e w' ⟨he, hw⟩ => ⟨he, ⟨⟨0, hw⟩⟩⟩
  · cases h


/-! ### strings_Count: function 131 -/
def strings_Count.f (a0 : ByteArray) (a1 : ByteArray) : Option Int := match a1.data.toList with
  | [c] => some (Lib.countByte a0.data.toList c)
  | _ => none
set_option maxHeartbeats 4000000 in
set_option maxRecDepth 100000 in
theorem strings_Count.one (s : ByteArray) (c : UInt8) (w : World) :
    Calls Tryd.prog 131 #[.string s, .string ⟨#[c]⟩] w fun e w' => e = .returned (.int .i64 (Lib.countByte s.data.toList c)) ∧ w' = w := by
  go_enter Tryd.func131, Tryd.ntmps131
  go_wp2
  rw [run_callFunc_extern Tryd.func148 (by kernel_rfl) (by kernel_rfl) (by kernel_rfl) (e := Extern.BytealgCount.count) (by kernel_rfl), Lib.run_countString]
  simp only [Result.andThen]
  rw [Oper.upon_value]
  go_wp2
  go_ret
  exact ⟨rfl, rfl⟩
theorem strings_Count.calls (a0 : ByteArray) (a1 : ByteArray) (r : Int) (w : World) (h : strings_Count.f a0 a1 = some r) :
    Calls Tryd.prog 131 #[.string a0, .string a1] w fun e w' => e = .returned (.int .i64 r) ∧ Drawn0 w w' := by
  obtain ⟨⟨l⟩⟩ := a1
  unfold strings_Count.f at h
  rcases l with _ | ⟨c, _ | ⟨d, l⟩⟩
  · cases h
  · obtain rfl := Option.some.inj h
    exact (strings_Count.one a0 c w).mono fun e w' ⟨he, hw⟩ => ⟨he, ⟨⟨0, hw⟩⟩⟩
  · cases h


/-! ### strings_genSplit: function 106 -/
def strings_genSplit.f (a0 : ByteArray) (a1 : ByteArray) (a2 : Int) (a3 : Int) : Option (List ByteArray) := match a1.data.toList with
  | [_] => if a2 = 0 ∧ a3 = -1 ∧ a0.size < 4294967281 then some (Lib.splitB a1 0 (min (Lib.countB a0 a1 + 1) (a0.size + 1) - 1) a0) else none
  | _ => none
set_option maxHeartbeats 4000000 in
set_option maxRecDepth 100000 in
theorem strings_genSplit.index (s : ByteArray) (c : UInt8) (w : World) :
    Calls Tryd.prog 132 #[.string s, .string ⟨#[c]⟩] w fun e w' => e = .returned (.int .i64 (Lib.indexB s ⟨#[c]⟩)) ∧ w' = w := by
  have hi : Lib.indexB s ⟨#[c]⟩ = Lib.indexByte s.data.toList c := Lib.index_one s.data.toList c
  rw [hi]
  clear hi
  go_enter Tryd.func132, Tryd.ntmps132
  go_wp2_with (first | ((with_reducible refine gate_callee (f := 129) rfl ?_); refine goesL_ (some 7) rfl rfl Tryd.func129 (by kernel_rfl) rfl #[.string s, .string ⟨#[c]⟩] rfl (by (try simp only [List.map_toArray, List.map_cons, List.map_nil]); first | done | rfl) ?_; (with_reducible refine (stringslite_Index.one s c _).mono ?_); rintro e w' ⟨rfl, rfl⟩; refine ⟨_, rfl, ?_⟩))
  go_ret
  exact ⟨rfl, rfl⟩
theorem strings_genSplit.calls (a0 : ByteArray) (a1 : ByteArray) (a2 : Int) (a3 : Int) (r : List ByteArray) (w : World) (h : strings_genSplit.f a0 a1 a2 a3 = some r) :
    Calls Tryd.prog 106 #[.string a0, .string a1, .int .i64 a2, .int .i64 a3] w fun e w' => ∃ v0_ : Value, e = .returned (v0_) ∧ Kd.R Kd.string 9 w' w.heap.size (fun _ => True) v0_ r ∧ Below w.heap.size w w' := by
  obtain ⟨⟨l⟩⟩ := a1
  unfold strings_genSplit.f at h
  rcases l with _ | ⟨c, _ | ⟨d, l⟩⟩
  · cases h
  · replace h : (if a2 = 0 ∧ a3 = -1 ∧ a0.size < 4294967281 then some (Lib.splitB ⟨#[c]⟩ 0 (min (Lib.countB a0 ⟨#[c]⟩ + 1) (a0.size + 1) - 1) a0) else none) = some r := h
    by_cases hc : a2 = 0 ∧ a3 = -1 ∧ a0.size < 4294967281
    · rw [if_pos hc] at h
      obtain ⟨rfl, rfl, hs⟩ := hc
      obtain rfl := Option.some.inj h
      clear h
      have hcount : Lib.countB a0 ⟨#[c]⟩ = Lib.countByte a0.data.toList c := Lib.count_one c a0.data.toList
      refine (Go.Proofs.Any.strings_genSplit_core Go.Proofs.Tryd.lays221 (by kernel_rfl) a0 ⟨#[c]⟩ 0 (-1) (min (Lib.countB a0 ⟨#[c]⟩ + 1) (a0.size + 1)) w hs (Nat.le_refl 1) (Nat.zero_le _) (fun x cs _ => strings_genSplit.index x c _) (by rw [hcount]; exact strings_Count.one a0 c w) (by decide) (by decide) (by rw [if_pos (by decide)]; omega)).mono ?_
      rintro e w' ⟨rfl, rfl⟩
      have hle := Lib.splitB_length_le ⟨#[c]⟩ 0 (min (Lib.countB a0 ⟨#[c]⟩ + 1) (a0.size + 1) - 1) a0
      generalize Lib.splitB ⟨#[c]⟩ 0 (min (Lib.countB a0 ⟨#[c]⟩ + 1) (a0.size + 1) - 1) a0 = ps at hle ⊢
      have hN : ps.length ≤ min (Lib.countB a0 ⟨#[c]⟩ + 1) (a0.size + 1) := by omega
      refine ⟨_, rfl, ⟨fun k _ => trivial, ps.map Value.string, ⟨by simp [Kd.string, Kd.scalar], .inr ⟨w.heap.size, _, _, rfl, Nat.le_refl _, heap_alloc_new _ _, hN, by simp only [maxLen]; omega, by rw [Lib.cellsOf_size hN]; simp [Kd.string, Kd.scalar], ?_⟩⟩, ⟨by simp [Kd.string, Kd.scalar], fun j p hp => ?_⟩⟩, (Below.refl _ _).alloc (Nat.le_refl _) _⟩
      · unfold Lib.cellsOf
        simp [Kd.string, Kd.scalar, List.take_append_of_le_length, List.take_of_length_le]
      · show ((ps.map Value.string).drop (j * 1)).take 1 = [Value.string p]
        have hj := (List.getElem?_eq_some_iff.1 hp)
        obtain ⟨hj1, hj2⟩ := hj
        rw [Nat.mul_one, List.drop_eq_getElem_cons (by simpa using hj1)]
        simp [hj2]
    · rw [if_neg hc] at h
      cases h
  · cases h


/-! ### strings_Split: function 73 -/
def strings_Split.f (a0 : ByteArray) (a1 : ByteArray) : Option (List ByteArray) := (strings_genSplit.f a0 a1 0 (-1)).bind fun t186 => (some t186)
set_option maxHeartbeats 8000000 in
set_option maxRecDepth 100000 in
theorem strings_Split.calls (a0 : ByteArray) (a1 : ByteArray) (r : List ByteArray) (w : World) (h : strings_Split.f a0 a1 = some r) :
    Calls Tryd.prog 73 #[.string a0, .string a1] w fun e w' => ∃ v0_ : Value, e = .returned (v0_) ∧ Kd.R Kd.string 9 w' w.heap.size (fun _ => True) v0_ r ∧ Below w.heap.size w w' := by
  have HB := Aside0.mk (Below.refl w.heap.size w)
  have H : ((strings_genSplit.f a0 a1 0 (-1)).bind fun t186 => (some t186)) = some r := h
  clear h
  replace H := Option.bind_eq_some_iff.mp H
  obtain ⟨t186, A30, H⟩ := H
  replace H : (some t186) = some r := H
  have A3 := Aside0.mk A30
  clear A30
  obtain rfl := Option.some.inj H
  go_enter Tryd.func73, Tryd.ntmps73
  go_wp2_with (first | ((with_reducible refine gate_callee (f := 106) rfl ?_); refine goesL_ (some 7) rfl rfl Tryd.func106 (by kernel_rfl) rfl #[.string a0, .string a1, .int .i64 0, .int .i64 (-1)] rfl (by (try simp only [List.map_toArray, List.map_cons, List.map_nil]); first | done | rfl | (simp only [List.length_drop, List.length_take]; rfl)) ?_; (with_reducible refine (strings_genSplit.calls a0 a1 0 (-1) t186 _ A3.out).mono ?_); rintro e w4 ⟨v187, rfl, ho0, hb⟩; refine ⟨_, rfl, ?_⟩; have n0_ := Aside0.mk (Kd.R_lower ho0 (below_size (by repeat (first | (with_reducible first | exact HB.out | apply below_alloc | apply pw_below_drewN | apply below_drew1) | exact HB.out)))); have n1_ := Aside0.mk (below_step (by repeat (first | (with_reducible first | exact HB.out | apply below_alloc | apply pw_below_drewN | apply below_drew1) | exact HB.out)) hb); clear HB; have HO188 := n0_; have HB := n1_; clear n0_ n1_; (try clear hb); (try clear hb2); (try clear hk); (try clear hi); (try clear ho0)))
  go_ret
  exact ⟨_, by first | rfl | (simp [errW_none, errW_some] <;> rfl) | (simp [*, errW_none, errW_some] <;> rfl), by (with_reducible repeat (first | apply Kd.R_alloc | apply Kd.R_drewN | apply Kd.R_drew)); exact HO188.out, by repeat (first | (with_reducible first | exact HB.out | apply below_alloc | apply pw_below_drewN | apply below_drew1) | exact HB.out)⟩

end Go.Proofs.YtckdocofmffheaaDoor.Q
