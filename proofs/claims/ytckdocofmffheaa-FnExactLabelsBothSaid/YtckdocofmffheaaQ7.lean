/- Printed for this claim by a program of this session (wip/tools/xprint.py) out of the translation: what each Go function comes to, and that it comes to it. Not trusted: Lean checks it. -/
import Derived.Test.YtckdocofmffheaaQ0
import Derived.Test.YtckdocofmffheaaQ5
import Derived.Test.YtckdocofmffheaaQ6
namespace Go.Proofs.Ytckdocofmffheaa.Q
open Go.RowKit Go.Proofs.YtckdocofmffheaaW.PrintWords Go.Proofs.YtckdocofmffheaaW.PrintLast Go.Proofs.YtckdocofmffheaaW.PrintMore
attribute [local go_sem] max2_int min2_int max_two min_two max_three min_three max_four min_four   -- for this text's walks alone
set_option linter.unusedVariables false
set_option linter.unusedSimpArgs false

/-! ### impl_LabelsBoth: function 11 -/
instance impl_LabelsBoth.deq : DecidableEq S35 := fun ⟨a, b⟩ ⟨c, d⟩ => if h : a = c ∧ b = d then .isTrue (by rw [h.1, h.2]) else .isFalse (fun e => h (by injection e with e1 e2; exact ⟨e1, e2⟩))
instance impl_LabelsBoth.inh : Inhabited S35 := ⟨z35⟩
def impl_LabelsBoth.enc (x : S35) : List Value := [.int .i64 x.f0, .string x.f1]
theorem impl_LabelsBoth.toList_iff {a b : ByteArray} : a.toList = b.toList ↔ a = b :=
  ⟨fun h => by rw [ByteArray.toList_eq, ByteArray.toList_eq] at h; cases a; cases b; simp only at h; rw [Array.toList_inj.1 h], fun h => by rw [h]⟩
theorem impl_LabelsBoth.eqIn (x y : S35) (w : World) : (Op.equalIn 10000 35 (.agg (impl_LabelsBoth.enc x).toArray) (.agg (impl_LabelsBoth.enc y).toArray)).run Try.prog w = .ok (decide (x = y)) w := by
  have hS : Try.prog.underlying 35 = some (.struct (Try.prog.fieldsOf 35)) := by kernel_rfl
  have hp : Try.prog.stoodInHeld 35 = false := by kernel_rfl
  have u3 := Try.underlying3
  have u9 := Try.underlying9
  obtain ⟨a, b⟩ := x
  obtain ⟨c, d⟩ := y
  simp only [impl_LabelsBoth.enc]
  rw [show (10000 : Nat) = 9999 + 1 from rfl, run_equalIn_agg w 9999 35 _ _ hS hp]
  simp only [Program.fieldsOf, Try.underlying35]
  go_simp
  by_cases h1 : a = c
  · by_cases h2 : b = d
    · subst h1
      subst h2
      simp
    · have h3 : ¬ b.toList = d.toList := fun e => h2 (impl_LabelsBoth.toList_iff.1 e)
      simp [h1, h2, h3]
  · simp [h1]
theorem impl_LabelsBoth.eql (x y : S35) (w : World) : Sem.run Try.prog (binOp .eql 35 (.agg #[.int .i64 x.f0, .string x.f1]) (.agg #[.int .i64 y.f0, .string y.f1])) w = .ok (.bool (decide (x = y))) w := by
  rw [run_eql_struct]
  have h := impl_LabelsBoth.eqIn x y w
  simp only [impl_LabelsBoth.enc] at h
  rw [h]
  rfl
theorem impl_LabelsBoth.neq (x y : S35) (w : World) : Sem.run Try.prog (binOp .neq 35 (.agg #[.int .i64 x.f0, .string x.f1]) (.agg #[.int .i64 y.f0, .string y.f1])) w = .ok (.bool (!decide (x = y))) w := by
  rw [run_neq_struct]
  have h := impl_LabelsBoth.eqIn x y w
  simp only [impl_LabelsBoth.enc] at h
  rw [h]
  rfl
open Go.Sort in
theorem impl_LabelsBoth.put_one (dk : Array S35) (kk : Nat) (u : S35) (h : kk < dk.size) : setMany (flatK impl_LabelsBoth.enc 2 dk) (kk * 2) (impl_LabelsBoth.enc u) = flatK impl_LabelsBoth.enc 2 (dk.setIfInBounds kk u) := by
  refine ext_get! (by simp) fun t ht => ?_
  have ht' : t < dk.size * 2 := by simpa using ht
  rw [get_setMany _ _ _ t (by simpa using ht'), get_flatK _ _ _ t ht', get_flatK _ _ _ t (by simpa using ht')]
  have hl : (impl_LabelsBoth.enc u).length = 2 := rfl
  rw [hl]
  by_cases a : t / 2 = kk
  · rw [if_pos (by omega), a, getElem!_set_same _ _ _ h, show t - kk * 2 = t % 2 by omega]
  · rw [if_neg (by omega), getElem!_set_other _ _ _ _ a]
open Go.Sort in
theorem impl_LabelsBoth.cells {W : World} {blk off : Nat} {d : Array S35} (h : HoldsK impl_LabelsBoth.enc 2 W blk off d) {i : Nat} (hi : i < d.size) :
    (W.cell? ⟨blk, off + i * 2, none⟩ = some (.int .i64 d[i]!.f0) ∧ W.cell? ⟨blk, off + i * 2 + 1, none⟩ = some (.string d[i]!.f1)) ∧ W.frozen? ⟨blk, off + i * 2, none⟩ = false ∧ W.frozen? ⟨blk, off + i * 2 + 1, none⟩ = false := by
  have h0 := h.cell hi (show 0 < 2 by decide)
  have h1 := h.cell hi (show 1 < 2 by decide)
  exact ⟨⟨h0.1, h1.1⟩, h0.2, h1.2⟩
theorem impl_LabelsBoth.clear (W : World) (b o n c : Nat) (hn : 0 < n) (hc : ∀ j, j < n * 2 → (W.cell? ⟨b, o + j, none⟩).isSome = true ∧ W.frozen? ⟨b, o + j, none⟩ = false) :
    ∃ vs : List Value, vs.length = n * 2 ∧ ∀ ty, (Builtin.clear_ #[25] ty #[.slice (some ⟨b, o, none⟩) n c]).run Try.prog W = .ok (.tuple #[]) (W.setCells b o vs) := by
  have hl : (Builtin.zeroCells (.agg #[(.int .i64 0), (.string ⟨#[]⟩)] : Value).cells n).toList.length = n * 2 := by simp [Builtin.zeroCells, Value.cells]
  refine ⟨_, hl, fun ty => ?_⟩
  have hst := run_storeCells_cells (P := Try.prog) b o (Builtin.zeroCells (.agg #[(.int .i64 0), (.string ⟨#[]⟩)] : Value).cells n).toList 0 W (fun j hj => by rw [hl] at hj; simpa using (hc j hj).1) (fun j hj => by rw [hl] at hj; simpa using (hc j hj).2) (by
    intro v hv
    simp only [Builtin.zeroCells, Value.cells, Array.toList_map, List.mem_map] at hv
    obtain ⟨i, _, rfl⟩ := hv
    have : i % 2 = 0 ∨ i % 2 = 1 := by omega
    rcases this with e | e <;> simp [e, Value.oneCell'])
  simp only [Nat.add_zero] at hst
  have hv := Try.zeroValue35
  obtain ⟨m, rfl⟩ : ∃ m, n = m + 1 := ⟨n - 1, by omega⟩
  simp [Builtin.clear_, run_underlying Try.underlying25, hv, hst]
set_option maxHeartbeats 4000000 in
set_option maxRecDepth 100000 in
theorem impl_LabelsBoth.grow (n : Nat) (w : World) (hn : n ≤ 4194304) : Calls Try.prog 29 #[.slice none 0 0, .int .i64 (n : Int)] w fun e w' => ∃ v : Value, e = .returned v ∧ Kd.R k35 35 w' w.heap.size (fun _ => True) v [] ∧ Below w.heap.size w w' := by
  by_cases h0 : n = 0
  · subst h0
    go_enter Try.func29, Try.ntmps29
    go_wp2
    go_ret
    exact ⟨_, rfl, Kd.R_nil _ _ _ _ _, Below.refl _ _⟩
  · have h1 : 0 < (n : Int) := by omega
    have h2 : ¬ (n : Int) < 0 := by omega
    have h3 : n ≤ 281474976710656 := by omega
    have h4 : (n : Int) ≤ 9223372036854775807 := by omega
    have HN := Aside0.mk hn
    have HZ := Aside0.mk h0
    clear h0 hn
    go_enter Try.func29, Try.ntmps29
    go_wp2_with (first | ((with_reducible refine gate_builtin (b := .append) (xs := #[.tmp 20, .tmp 21]) rfl ?_); at_builtin; refine Kd.R_append_zeros k35 (w0 := w) w.heap.size rfl (.tmp 20) (.tmp 21) 25 3 35 (.agg #[(.int .i64 0), (.string ⟨#[]⟩)]) 24 rfl Try.underlying25 Try.underlying3 info35 rfl (by decide) (by omega) (.slice none 0 0) [] z35 (n : Int) (fun _ => True) rfl rfl (k35_mkM _ _ _ _) (fun _ _ => trivial) (Kd.R_nil _ _ _ _ _) (by omega) (Below.refl _ _) (Nat.le_refl _) (by have := HN.out; simp only [List.length_nil, Int.toNat_natCast]; omega) ?_; intro v1 w1 hr1 hb1 hg1 hat1; clear hg1 hat1; rw [List.nil_append, Int.toNat_natCast] at hr1; obtain ⟨A1, c1, e1⟩ := Kd.R_slice hr1; subst e1; rw [List.length_replicate] at hr1; have hr2 := Kd.R_take hr1 (Nat.zero_le _); rw [List.take_zero] at hr2; have RR := Aside0.mk hr2; have BB := Aside0.mk hb1; clear hr1 hr2 hb1; simp only [List.length_replicate]))
    go_ret
    exact ⟨_, rfl, RR.out, BB.out⟩
set_option maxHeartbeats 8000000 in
set_option maxRecDepth 100000 in
theorem impl_LabelsBoth.concat (B : Nat) (A0 : Option Addr) (c0 : Nat) (l0 : List S35) (A1 : Option Addr) (c1 : Nat) (l1 : List S35) (w : World) (hr0 : Kd.C k35 w A0 l0.length l0) (hc0 : l0.length ≤ c0) (hr1 : Kd.C k35 w A1 l1.length l1) (hc1 : l1.length ≤ c1) (hl : l0.length + l1.length ≤ 4194304)
    (hB : B < w.heap.size) (q0 : w.cell? ⟨B, 0, none⟩ = some (.slice A0 l0.length c0)) (q1 : w.cell? ⟨B, 1, none⟩ = some (.slice A1 l1.length c1)) :
    Calls Try.prog 22 #[.slice (some ⟨B, 0, none⟩) 2 2] w fun e w' => ∃ v : Value, e = .returned v ∧ Kd.R k35 35 w' w.heap.size (fun _ => True) v (l0 ++ l1) ∧ Below w.heap.size w w' := by
  have HR0 := Aside0.mk hr0
  have HR1 := Aside0.mk hr1
  have HC0 := Aside0.mk hc0
  have HC1 := Aside0.mk hc1
  have HB := Aside0.mk hB
  obtain ⟨n0, hn0⟩ : ∃ n, n = l0.length := ⟨_, rfl⟩
  obtain ⟨n1, hn1⟩ : ∃ n, n = l1.length := ⟨_, rfl⟩
  rw [← hn0] at q0 hl
  rw [← hn1] at q1 hl
  have HN0 := Aside0.mk hn0
  have HN1 := Aside0.mk hn1
  have HL := Aside0.mk hl
  have hw1 : wrap64 (n0 : Int) = (n0 : Int) := by unfold wrap64; omega
  have hw3 : wrap64 ((0 : Int) + (n0 : Int)) = (n0 : Int) := by unfold wrap64; omega
  have hw2 : wrap64 ((n0 : Int) + (n1 : Int)) = ((n0 + n1 : Nat) : Int) := by unfold wrap64; omega
  have hp0 : ¬ (n0 : Int) < 0 := Int.not_lt.2 (Int.natCast_nonneg _)
  have hp1 : ¬ ((n0 + n1 : Nat) : Int) < 0 := Int.not_lt.2 (Int.natCast_nonneg _)
  have hgrow := impl_LabelsBoth.grow (n0 + n1) w (by omega)
  clear hr0 hr1 hc0 hc1 hn0 hn1 hl hB
  obtain ⟨wr0, hwr0⟩ : ∃ x : World, x = w := ⟨_, rfl⟩
  have HW := Aside0.mk hwr0
  go_enter Try.func22, Try.ntmps22
  go_wp2
  go_loopg [3, 11] 2 (fun g s3 s11 wr => wr = w ∧ ((s3 = .int .i64 0 ∧ s11 = .int .i64 0 ∧ 2 ≤ g) ∨ (s3 = .int .i64 (n0 : Int) ∧ s11 = .int .i64 1 ∧ 1 ≤ g) ∨ (s3 = .int .i64 ((n0 + n1 : Nat) : Int) ∧ s11 = .int .i64 2)))
  case atStart => exact ⟨rfl, .inl ⟨rfl, rfl, Nat.le_refl _⟩⟩
  case round =>
    obtain ⟨rfl, hh⟩ := hrel
    rcases hh with ⟨rfl, rfl, hg⟩ | ⟨rfl, rfl, hg⟩ | ⟨rfl, rfl⟩
    · go_wp2
      go_roundg 1
      case measure => omega
      case rel => exact ⟨rfl, .inr (.inl ⟨by first | rfl | rw [hw1] | simp, by first | rfl | go_num, Nat.le_refl _⟩)⟩
    · go_wp2
      go_roundg 0
      case measure => omega
      case rel => exact ⟨rfl, .inr (.inr ⟨by first | rfl | rw [hw2] | simp, by first | rfl | go_num⟩)⟩
    · obtain rfl := HW.out
      go_wp2_with (go_at_call 29; refine hgrow.mono ?_; rintro e w' ⟨v0, rfl, hR, hBw⟩; have RR := Aside0.mk hR; have BB := Aside0.mk hBw; clear hR hBw)
      have Q0 := Aside0.mk q0
      have Q1 := Aside0.mk q1
      clear q0 q1
      go_loopg [6, 27] 2 (fun g s6 s27 wr => ∃ i : Nat, i ≤ 2 ∧ 2 - i ≤ g ∧ s27 = .int .i64 (i : Int) ∧ Aside0 (Kd.R k35 35 wr wr0.heap.size (fun _ => True) s6 (if i = 0 then [] else if i = 1 then l0 else l0 ++ l1)) ∧ Aside0 (Below wr0.heap.size wr0 wr))
      case atStart => exact ⟨0, by omega, by omega, rfl, ⟨by simpa using RR.out⟩, BB⟩
      case round =>
        obtain ⟨i, hi, hg, rfl, RI, BI⟩ := hrel
        have e0 := (BI.out.cell (p := ⟨B, 0, none⟩) HB.out).trans Q0.out
        have e1 := (BI.out.cell (p := ⟨B, 1, none⟩) HB.out).trans Q1.out
        have hi' : i = 0 ∨ i = 1 ∨ i = 2 := by omega
        clear hi
        rcases hi' with rfl | rfl | rfl
        · rw [if_pos rfl] at RI
          have HG := Aside0.mk hg
          clear hg
          go_wp2_with (first | ((with_reducible refine gate_builtin (b := .append) (xs := #[.tmp 31, .tmp 32]) rfl ?_); at_builtin; refine Kd.R_append_rows k35 (w0 := wr0) wr0.heap.size rfl (.tmp 31) (.tmp 32) 25 35 (.agg #[(.int .i64 0), (.string ⟨#[]⟩)]) 24 rfl Try.underlying25 info35 rfl (by decide) (by omega) _ [] l0 A0 n0 c0 (fun _ => True) (fun _ => False) rfl rfl RI.out (by have z := Kd.C_below HR0.out BI.out; rw [← HN0.out] at z; exact z) (fun _ _ h => h) (fun _ h => h.elim) (fun _ _ => trivial) BI.out BI.out.size (by have := HL.out; simp only [List.length_nil]; omega) ?_; intro v1 w1 ho hb hg_ hat_; clear hg_ hat_; have RR2 := Aside0.mk ho; have BB2 := Aside0.mk hb; clear ho hb))
          go_roundg 1
          case measure => have := HG.out; omega
          case rel => exact ⟨1, by omega, by omega, by first | rfl | go_num, ⟨by simpa using RR2.out⟩, BB2⟩
        · rw [if_neg (by decide), if_pos rfl] at RI
          have HG := Aside0.mk hg
          clear hg
          go_wp2_with (first | ((with_reducible refine gate_builtin (b := .append) (xs := #[.tmp 31, .tmp 32]) rfl ?_); at_builtin; refine Kd.R_append_rows k35 (w0 := wr0) wr0.heap.size rfl (.tmp 31) (.tmp 32) 25 35 (.agg #[(.int .i64 0), (.string ⟨#[]⟩)]) 24 rfl Try.underlying25 info35 rfl (by decide) (by omega) _ l0 l1 A1 n1 c1 (fun _ => True) (fun _ => False) rfl rfl RI.out (by have z := Kd.C_below HR1.out BI.out; rw [← HN1.out] at z; exact z) (fun _ _ h => h) (fun _ h => h.elim) (fun _ _ => trivial) BI.out BI.out.size (by have := HL.out; rw [← HN0.out]; omega) ?_; intro v1 w1 ho hb hg_ hat_; clear hg_ hat_; have RR2 := Aside0.mk ho; have BB2 := Aside0.mk hb; clear ho hb))
          go_roundg 0
          case measure => have := HG.out; omega
          case rel => exact ⟨2, by omega, by omega, by first | rfl | go_num, ⟨by simpa using RR2.out⟩, BB2⟩
        · rw [if_neg (by decide), if_neg (by decide)] at RI
          go_wp2
          go_ret
          exact ⟨_, rfl, RI.out, BI.out⟩
open Go.Sort Go.Lib in
set_option maxHeartbeats 8000000 in
set_option maxRecDepth 1000000 in
theorem impl_LabelsBoth.compact (blk off cap : Nat) (d : Array S35) (w : World) (hH : HoldsK impl_LabelsBoth.enc 2 w blk off d) (hsz : d.size ≤ 9223372036854775807) (hcap : d.size ≤ cap) :
    Calls Try.prog 25 #[.slice (some ⟨blk, off, none⟩) d.size cap] w fun e w' => e = .returned (.slice (some ⟨blk, off, none⟩) (compactUpTo d d.size).length cap) ∧
      ∃ q F, w' = putRow id (Sort.ahead w q) blk off F ∧ F.size = d.size * 2 ∧ ∀ j, j < (compactUpTo d d.size).length → F[j * 2]! = .int .i64 (compactUpTo d d.size)[j]!.f0 ∧ F[j * 2 + 1]! = .string (compactUpTo d d.size)[j]!.f1 := by
  have mixed : Try.prog.follows .mixedOrders = true := by kernel_rfl
  have heq := impl_LabelsBoth.eql
  have hne := impl_LabelsBoth.neq
  have same : ∀ q, (∀ j, j < d.size → keeps d j = true) → (compactUpTo d d.size).length = d.size ∧ ∃ q' F, w.drewN q = putRow id (Sort.ahead w q') blk off F ∧ F.size = d.size * 2 ∧ ∀ j, j < (compactUpTo d d.size).length → F[j * 2]! = .int .i64 (compactUpTo d d.size)[j]!.f0 ∧ F[j * 2 + 1]! = .string (compactUpTo d d.size)[j]!.f1 := by
    intro q hall
    have e : compactUpTo d d.size = d.toList := by rw [compactUpTo_all d _ hall, range_map_get]
    rw [e]
    refine ⟨by simp, q, flatK impl_LabelsBoth.enc 2 d, (putRowK_self impl_LabelsBoth.enc 2 (Sort.ahead w q) blk off d (holdsK_ahead _ _ w q blk off d hH)).symm, by simp, fun j hj => ?_⟩
    have hj' : j < d.size := by simpa using hj
    have e2 : d.toList[j]! = d[j]! := by rw [getElem!_pos d j hj', getElem!_pos d.toList j hj]; simp
    rw [get_flatK _ _ _ _ (by omega), get_flatK _ _ _ _ (by omega), show j * 2 / 2 = j by omega, show j * 2 % 2 = 0 by omega, show (j * 2 + 1) / 2 = j by omega, show (j * 2 + 1) % 2 = 1 by omega, e2]
    exact ⟨rfl, rfl⟩
  have HS := Aside0.mk same
  clear same
  by_cases h2 : d.size < 2
  · have HH := Aside0.mk hH
    clear hH
    go_enter Try.func25, Try.ntmps25
    go_wp2
    go_ret
    obtain ⟨e1, e2⟩ := HS.out 0 (fun j hj => keeps_lt_one d j (by omega))
    exact ⟨by rw [e1]; rfl, e2⟩
  · go_enter Try.func25, Try.ntmps25
    go_wp2
    go_loopg [3] d.size (fun g s3 wr => ∃ k q : Nat, 1 ≤ k ∧ k ≤ d.size ∧ d.size - k ≤ g ∧ s3 = .int .i64 k ∧ wr = w.drewN q ∧ Aside0 (∀ j, j < k → keeps d j = true))
    case atStart => exact ⟨1, 0, Nat.le_refl _, by omega, by omega, rfl, rfl, ⟨keeps_lt_one d⟩⟩
    case round =>
      obtain ⟨k, q, hk1, hk, hg, rfl, rfl, hall⟩ := hrel
      by_cases hlt : k < d.size
      · obtain ⟨⟨c1, c1'⟩, _⟩ := impl_LabelsBoth.cells hH hlt
        obtain ⟨⟨c0, c0'⟩, _⟩ := impl_LabelsBoth.cells hH (show k - 1 < d.size by omega)
        have HH := Aside0.mk hH
        clear hH
        generalize hx : d[k]! = x at c1 c1'
        generalize hy : d[k - 1]! = y at c0 c0'
        have B := Aside0.mk (show d[k]! = x ∧ d[k - 1]! = y from ⟨hx, hy⟩)
        clear hx hy
        have hwk : IntKind.i64.wrap ((k : Int) - 1) = ((k - 1 : Nat) : Int) := by
          rw [IntKind.wrap_i64]
          omega
        have hk2 : k - 1 < d.size := by omega
        by_cases hdup : x = y
        · subst hdup
          go_wp2_with fail
          go_region_o
          go_wp2
          clear c0 c1 c0' c1' hwk hk2
          go_loopg [3, 5] d.size (fun g s3 s5 wr => ∃ (kk k2 q2 : Nat) (dk : Array S35), s3 = .int .i64 kk ∧ s5 = .int .i64 k2 ∧ 1 ≤ k2 ∧ k + k2 ≤ d.size ∧ d.size - (k + k2) ≤ g ∧ wr = putRowK impl_LabelsBoth.enc 2 (Sort.ahead w q2) blk off dk ∧ CompInv d (k + k2) kk dk)
          case atStart => exact ⟨k, 1, q + 1, d, rfl, rfl, Nat.le_refl _, by omega, by omega, (putRowK_self impl_LabelsBoth.enc 2 (Sort.ahead w (q + 1)) blk off d (holdsK_ahead _ _ w (q + 1) blk off d HH.out)).symm, CompInv.start hall.out (keeps_neg (by omega) (by rw [B.out.1, B.out.2]))⟩
          case round =>
            obtain ⟨kk, k2, q2, dk, rfl, rfl, h1, hle, hg2, hwr, hI⟩ := hrel
            have hkk := hI.lt
            have hds := hI.size
            have hHk : HoldsK impl_LabelsBoth.enc 2 wr blk off dk := by rw [hwr]; exact holdsK_putRowK impl_LabelsBoth.enc 2 _ blk off d dk (holdsK_ahead _ _ w q2 blk off d HH.out) hds
            have W2 := Aside0.mk hwr
            have I2 := Aside0.mk hI
            have HHk := Aside0.mk hHk
            clear hwr
            by_cases hlt2 : k + k2 < d.size
            · obtain ⟨⟨cm, cm'⟩, _⟩ := impl_LabelsBoth.cells hHk (show k + k2 < dk.size by omega)
              obtain ⟨⟨cp, cp'⟩, _⟩ := impl_LabelsBoth.cells hHk (show k + k2 - 1 < dk.size by omega)
              obtain ⟨⟨ck, ck'⟩, fk, fk'⟩ := impl_LabelsBoth.cells hHk (show kk < dk.size by omega)
              rw [hI.high (k + k2) (by omega), show off + (k + k2) * 2 = off + k * 2 + k2 * 2 by omega] at cm cm'
              rw [hI.high (k + k2 - 1) (by omega), show off + (k + k2 - 1) * 2 = off + k * 2 + (k2 - 1) * 2 by omega] at cp cp'
              clear hHk hI
              generalize hu : d[k + k2]! = u at cm cm'
              generalize hv : d[k + k2 - 1]! = v at cp cp'
              generalize dk[kk]! = old at ck ck'
              have C := Aside0.mk (show d[k + k2]! = u ∧ d[k + k2 - 1]! = v from ⟨hu, hv⟩)
              clear hu hv
              have hwk2 : IntKind.i64.wrap ((k2 : Int) - 1) = ((k2 - 1 : Nat) : Int) := by
                rw [IntKind.wrap_i64]
                omega
              have hk3 : k2 - 1 < d.size - k := by omega
              have hk4 : k2 < d.size - k := by omega
              by_cases huv : u = v
              · subst huv
                go_wp2_with fail
                go_region_o
                go_wp2
                go_roundg (d.size - (k + (k2 + 1)))
                case measure => omega
                case rel => exact ⟨kk, k2 + 1, q2 + 1, dk, rfl, by go_num, by omega, by omega, Nat.le_refl _, by rw [W2.out]; rfl, I2.out.skip (keeps_neg (by omega) (by rw [C.out.1, C.out.2]))⟩
              · have hne3 : kk * 2 ≠ kk * 2 + 1 := by omega
                go_wp2_with fail
                go_region_o
                go_wp2
                go_roundg (d.size - (k + (k2 + 1)))
                case measure => omega
                case rel =>
                  refine ⟨kk + 1, k2 + 1, q2 + 1, dk.setIfInBounds kk u, by go_num, by go_num, by omega, by omega, Nat.le_refl _, ?_, by have := I2.out.keep hlt2 (keeps_pos (by rw [C.out.1, C.out.2]; exact huv)); rwa [C.out.1] at this⟩
                  rw [W2.out]
                  show ((putRowK impl_LabelsBoth.enc 2 (Sort.ahead w q2) blk off dk).drewN 1).setCells blk (off + kk * 2) (impl_LabelsBoth.enc u) = _
                  rw [putRowK_drewN]
                  unfold putRowK
                  rw [setCells_putRow _ _ _ _ _ _ (by simp [impl_LabelsBoth.enc]; omega), impl_LabelsBoth.put_one dk kk u (by omega)]
            · have hend : k + k2 = d.size := by omega
              obtain ⟨vs, hvl, hcl⟩ := impl_LabelsBoth.clear wr blk (off + kk * 2) (d.size - kk) (cap - kk) (by omega) (fun j hj => by
                have hz := HHk.out (kk * 2 + j) (by rw [size_flatK]; omega)
                rw [← Nat.add_assoc] at hz
                exact ⟨by rw [hz.1]; rfl, hz.2⟩)
              clear hHk hI
              go_wp2
              go_ret
              have hI := I2.out
              rw [hend] at hI
              refine ⟨by rw [hI.len]; rfl, q2, setMany (flatK impl_LabelsBoth.enc 2 dk) (kk * 2) vs, ?_, by simp [hI.size], fun j hj => ?_⟩
              · rw [W2.out]
                unfold putRowK
                exact setCells_putRow _ _ _ _ _ _ (by rw [size_flatK, hvl]; omega)
              · rw [hI.len] at hj
                have e2 : (compactUpTo d d.size)[j]! = dk[j]! := by
                  have := hI.low j hj
                  rw [List.getElem!_eq_getElem?_getD, this]
                  rfl
                have g : ∀ c, c < 2 → (setMany (flatK impl_LabelsBoth.enc 2 dk) (kk * 2) vs)[j * 2 + c]! = (impl_LabelsBoth.enc dk[j]!)[c]! := fun c hc => by
                  rw [get_setMany _ _ _ _ (by rw [size_flatK]; omega), if_neg (by omega), get_flatK _ _ _ _ (by omega), show (j * 2 + c) / 2 = j by omega, show (j * 2 + c) % 2 = c by omega]
                rw [e2]
                exact ⟨g 0 (by decide), g 1 (by decide)⟩
        · go_wp2_with fail
          go_region_o
          go_wp2
          go_roundg (d.size - (k + 1))
          case measure => omega
          case rel =>
            refine ⟨k + 1, q + 1, by omega, by omega, Nat.le_refl _, by go_num, rfl, ⟨fun j hj => ?_⟩⟩
            by_cases e : j = k
            · subst e
              exact keeps_pos (by rw [B.out.1, B.out.2]; exact hdup)
            · exact hall.out j (by omega)
      · have : k = d.size := by omega
        subst this
        have HH := Aside0.mk hH
        clear hH
        go_wp2
        go_ret
        obtain ⟨e1, e2⟩ := HS.out q hall.out
        exact ⟨by rw [e1]; rfl, e2⟩
def impl_LabelsBoth.cmpI (a b : Int) : Int := if a < b then -1 else if a > b then 1 else 0
def impl_LabelsBoth.cmpS (a b : ByteArray) : Int := if Op.bytesLess a.toList b.toList = true then -1 else if Op.bytesLess b.toList a.toList = true then 1 else 0
open Go.Proofs.Ytckdocofmffheaa.Pv in
theorem impl_LabelsBoth.compareI_eq (a b : Int) : cmp_Compare_int.f a b = some (impl_LabelsBoth.cmpI a b) := by
  unfold cmp_Compare_int.f cmp_isNaN_int.f impl_LabelsBoth.cmpI
  have e : ∀ x : Int, (x != x) = false := fun x => by simp
  rw [e, e]
  simp only [Option.bind_some, Bool.false_eq_true, if_false]
  by_cases h1 : a < b
  · rw [if_pos h1, if_pos h1]
  · rw [if_neg h1, if_neg h1]
    by_cases h2 : a > b
    · rw [if_pos h2, if_pos h2]
    · rw [if_neg h2, if_neg h2]
open Go.Proofs.Ytckdocofmffheaa.Pv in
theorem impl_LabelsBoth.compareS_eq (a b : ByteArray) : cmp_Compare_string.f a b = some (impl_LabelsBoth.cmpS a b) := by
  unfold cmp_Compare_string.f cmp_isNaN_string.f impl_LabelsBoth.cmpS
  have e : ∀ x : List UInt8, (x != x) = false := fun x => by simp
  rw [e, e]
  simp only [Option.bind_some, Bool.false_eq_true, if_false]
  by_cases h1 : Op.bytesLess a.toList b.toList = true
  · rw [if_pos h1, if_pos h1]
  · rw [if_neg h1, if_neg h1]
    by_cases h2 : Op.bytesLess b.toList a.toList = true
    · rw [if_pos h2, if_pos h2]
    · rw [if_neg h2, if_neg h2]
open Go.Proofs.Ytckdocofmffheaa.Pv in
theorem impl_LabelsBoth.ev_Or2 (c d : Int) : Ev (fun k => cmp_Or_int.f k [c, d]) (if c = 0 then d else c) := by
  have r0 : rd [c, d] 0 = c := rfl
  have r1 : rd [c, d] 1 = d := rfl
  have w0 : wrap64 (0 + 1) = 1 := by decide +kernel
  have w1 : wrap64 (1 + 1) = 2 := by decide +kernel
  unfold cmp_Or_int.f
  refine Ev.succ ?_
  simp only [cmp_Or_int.l0]
  rw [r0, w0]
  refine Ev.pos (by simp) (Ev.pos (by omega) (Ev.pos (by simp) (Ev.ite (fun h => ?_) (fun h => Ev.val ?_))))
  · rw [if_pos h]
    refine Ev.succ ?_
    simp only [cmp_Or_int.l0]
    rw [r1, w1]
    refine Ev.pos (by simp) (Ev.pos (by omega) (Ev.pos (by simp) (Ev.ite (fun h => ?_) (fun h => Ev.val rfl))))
    refine Ev.succ ?_
    simp only [cmp_Or_int.l0]
    exact Ev.neg (by simp) (Ev.val h.symm)
  · rw [if_neg h]
def impl_LabelsBoth.lt (x y : S35) : Bool := decide (x.f0 < y.f0) || (decide (x.f0 = y.f0) && Op.bytesLess x.f1.toList y.f1.toList)
def impl_LabelsBoth.cf (x y : S35) : Int := if impl_LabelsBoth.cmpI x.f0 y.f0 = 0 then impl_LabelsBoth.cmpS x.f1 y.f1 else impl_LabelsBoth.cmpI x.f0 y.f0
open Go.Proofs.Ytckdocofmffheaa.Pv in
theorem impl_LabelsBoth.has (x y : S35) : ∃ k, impl_compareLabels.f k x.f0 x.f1 y.f0 y.f1 = some (impl_LabelsBoth.cf x y) := by
  refine Ev.rounds ?_
  unfold impl_compareLabels.f
  rw [impl_LabelsBoth.compareI_eq, impl_LabelsBoth.compareS_eq]
  exact Ev.some_bind (Ev.some_bind (Ev.bnd (impl_LabelsBoth.ev_Or2 _ _) (Ev.val rfl)))
open Go.Proofs.Ytckdocofmffheaa.Pv in
theorem impl_LabelsBoth.so : SO impl_LabelsBoth.lt := by
  refine ⟨fun x => ?_, fun x y z h1 h2 => ?_, fun x y h1 h2 => ?_⟩
  · simp [impl_LabelsBoth.lt, bless_irr]
  · simp only [impl_LabelsBoth.lt, Bool.or_eq_true, decide_eq_true_eq, Bool.and_eq_true] at *
    rcases h1 with h1 | ⟨e1, h1⟩
    · rcases h2 with h2 | ⟨e2, h2⟩
      · exact .inl (by omega)
      · exact .inl (by omega)
    · rcases h2 with h2 | ⟨e2, h2⟩
      · exact .inl (by omega)
      · exact .inr ⟨by omega, bless_tr _ _ _ h1 h2⟩
  · cases x
    cases y
    simp only [impl_LabelsBoth.lt, Bool.or_eq_false_iff, decide_eq_false_iff_not, Bool.and_eq_false_iff] at h1 h2
    rename_i n s m t
    have e : n = m := by
      have := h1.1
      have := h2.1
      omega
    subst e
    have h3 : Op.bytesLess s.toList t.toList = false := by simpa using h1.2
    have h4 : Op.bytesLess t.toList s.toList = false := by simpa using h2.2
    rw [toList_eq_iff.1 (bless_tot _ _ h3 h4)]
open Go.Proofs.Ytckdocofmffheaa.Pv Go.Sort Go.Proofs in
theorem impl_LabelsBoth.lt_cf : ltOf impl_LabelsBoth.cf = impl_LabelsBoth.lt := by
  funext x y
  unfold ltOf impl_LabelsBoth.cf impl_LabelsBoth.lt impl_LabelsBoth.cmpI impl_LabelsBoth.cmpS
  by_cases h1 : x.f0 < y.f0
  · simp [h1]
  · by_cases h2 : x.f0 > y.f0
    · have h3 : ¬ x.f0 = y.f0 := by omega
      simp [h1, h2, h3]
    · have h3 : x.f0 = y.f0 := by omega
      rw [h3]
      cases h4 : Op.bytesLess x.f1.toList y.f1.toList
      · cases h5 : Op.bytesLess y.f1.toList x.f1.toList <;> simp
      · simp
open Go.Proofs.Ytckdocofmffheaa.Pv Go.Sort Go.Proofs in
theorem impl_LabelsBoth.swo : SWO (ltOf impl_LabelsBoth.cf) := by
  rw [impl_LabelsBoth.lt_cf]
  have h := impl_LabelsBoth.so
  refine ⟨fun x => h.irr x, fun x y z => h.tr x y z, fun x y z h1 h2 => ?_⟩
  cases h3 : impl_LabelsBoth.lt x z with
  | false => rfl
  | true =>
    cases h4 : impl_LabelsBoth.lt y x with
    | true => rw [h.tr _ _ _ h4 h3] at h2; cases h2
    | false => rw [h.tot _ _ h1 h4, h2] at h3; cases h3
open Go.Sort in
theorem impl_LabelsBoth.put_heap (w : World) (g : Nat) (F cur : Array Value) (e : TypeId) (h : w.heap[g]? = some (.cells cur e (0, 0))) : (putRow id w g 0 F).heap[g]? = some (.cells (putCells id 0 F cur) e (0, 0)) := by
  simp [putRow, mapBlock, Array.getElem?_modify, h, onCells]
open Go.Sort in
theorem impl_LabelsBoth.put_below {B : Nat} {w w1 : World} (h : Below B w w1) (g off : Nat) (hg : B ≤ g) (F : Array Value) : Below B w (putRow id w1 g off F) :=
  ⟨h.os, h.tape, h.output, by rw [size_putRow]; exact h.size, fun k hk => by
    show (w1.heap.modify g _)[k]? = _
    rw [Array.getElem?_modify, if_neg (by omega)]
    exact h.block k hk⟩
open Go.Sort in
theorem impl_LabelsBoth.grow_below {B : Nat} {w w1 : World} (h : Go.RowKit.Below B w w1) (hB : B ≤ w1.heap.size) (os : Array Obj) : Go.RowKit.Below B w (Go.Sort.grow w1 os) :=
  ⟨h.os, h.tape, h.output, by rw [size_grow]; have := h.size; omega, fun k hk => (heap_grow_old w1 os (by omega)).trans (h.block k hk)⟩
open Go.Sort in
theorem impl_LabelsBoth.out (w1 : World) (g base n m cap q : Nat) (F cur : Array Value) (r : List S35) (hh : w1.heap[g]? = some (.cells cur 35 (0, 0))) (hb : base ≤ g) (hm : m = r.length) (hmc : m ≤ cap) (hcap : cap ≤ maxLen) (hs : cur.size = cap * 2) (hF : F.size = n * 2) (hmn : m ≤ n)
    (hr : ∀ j, j < m → F[j * 2]! = .int .i64 r[j]!.f0 ∧ F[j * 2 + 1]! = .string r[j]!.f1) : Kd.R k35 35 (putRow id (Sort.ahead w1 q) g 0 F) base (fun _ => True) (.slice (some ⟨g, 0, none⟩) m cap) r := by
  have hh4 := impl_LabelsBoth.put_heap (Sort.ahead w1 q) g F cur 35 hh
  have hs4 : (putCells id 0 F cur).size = cap * 2 := by simp [putCells, hs]
  have hlen : ((putCells id 0 F cur).toList.take (m * 2)).length = m * 2 := by rw [List.length_take, Array.length_toList, hs4]; omega
  subst hm
  refine ⟨fun _ _ => trivial, (putCells id 0 F cur).toList.take (r.length * 2), ⟨hlen, .inr ⟨g, cap, _, rfl, hb, hh4, hmc, hcap, hs4, rfl⟩⟩, hlen, fun j p hp => ?_⟩
  obtain ⟨hj, e⟩ := List.getElem?_eq_some_iff.1 hp
  have at_ : ∀ t, t < r.length * 2 → ((putCells id 0 F cur).toList.take (r.length * 2))[t]? = some F[t]! := fun t ht => by
    have ht2 : t < cur.size := by rw [hs]; omega
    rw [List.getElem?_take_of_lt ht, Array.getElem?_toList]
    simp only [putCells, Array.getElem?_mapIdx, Array.getElem?_eq_getElem ht2, Option.map_some]
    rw [if_pos (by omega)]
    rfl
  have h0 := at_ (j * 2) (by omega)
  have h1 := at_ (j * 2 + 1) (by omega)
  rw [(hr j hj).1, getElem!_pos r j hj, e] at h0
  rw [(hr j hj).2, getElem!_pos r j hj, e] at h1
  have hd : (((putCells id 0 F cur).toList.take (r.length * 2)).drop (j * 2)).take k35.sz = [.int .i64 p.f0, .string p.f1] := by
    show (((putCells id 0 F cur).toList.take (r.length * 2)).drop (j * 2)).take 2 = _
    obtain ⟨l0, e0⟩ := List.getElem?_eq_some_iff.1 h0
    obtain ⟨l1, e1⟩ := List.getElem?_eq_some_iff.1 h1
    rw [List.drop_eq_getElem_cons l0, List.drop_eq_getElem_cons l1, e0, e1]
    rfl
  show k35.M _ _ _ p ((((putCells id 0 F cur).toList.take (r.length * 2)).drop (j * 2)).take k35.sz)
  rw [hd]
  exact k35_mkM _ _ _ _
open Go.Sort in
theorem impl_LabelsBoth.inn (W : World) (base : Nat) (xs : List S35) (g cap : Nat) (cur : Array Value) (inner : List Value) (hh : W.heap[g]? = some (.cells cur 35 (0, 0))) (hi : cur.toList.take (xs.length * 2) = inner) {M : S35 → List Value → Prop} (hM : ∀ x cs, M x cs → cs = [.int .i64 x.f0, .string x.f1]) (hr : Reps M 2 xs inner) : HoldsK impl_LabelsBoth.enc 2 W g 0 xs.toArray := by
  intro t ht
  rw [size_flatK] at ht
  have ht' : t < xs.length * 2 := by simpa using ht
  have hj : t / 2 < xs.length := by omega
  have hx := hM _ _ (hr.2 (t / 2) _ (List.getElem?_eq_getElem hj))
  have hin : inner[t]? = some ((impl_LabelsBoth.enc xs[t / 2])[t % 2]!) := by
    have h1 : ((inner.drop (t / 2 * 2)).take 2)[t % 2]? = some ((impl_LabelsBoth.enc xs[t / 2])[t % 2]!) := by
      rw [hx]
      have : t % 2 = 0 ∨ t % 2 = 1 := by omega
      rcases this with e | e <;> rw [e] <;> rfl
    rw [List.getElem?_take_of_lt (by omega), List.getElem?_drop, show t / 2 * 2 + t % 2 = t by omega] at h1
    exact h1
  have hc : cur[t]? = some ((impl_LabelsBoth.enc xs[t / 2])[t % 2]!) := by
    rw [← hi, List.getElem?_take_of_lt ht', Array.getElem?_toList] at hin
    exact hin
  rw [get_flatK _ _ _ _ ht, Nat.zero_add]
  have e2 : xs.toArray[t / 2]! = xs[t / 2] := by rw [getElem!_pos _ _ (by simpa using hj)]; simp
  rw [e2]
  exact ⟨by simp [World.cell?, hh, hc], by simp [World.frozen?, hh]⟩
open Go.Sort Go.Proofs Go.Lib in
theorem impl_LabelsBoth.lays (blk off size : Nat) (w : World) : CmpLays Try.prog 24 #[] impl_LabelsBoth.enc 2 impl_LabelsBoth.cf blk off size w :=
  fun _ _ _ _ x y => by
    obtain ⟨k, hk⟩ := impl_LabelsBoth.has x y
    exact (impl_compareLabels.grows k x.f0 x.f1 y.f0 y.f1 _ _ hk).mono fun e w' ⟨he, hg⟩ => ⟨he, hg.out⟩
set_option maxHeartbeats 4000000 in
theorem impl_LabelsBoth.compact_none (a : Option Addr) (cap : Nat) (w : World) : Calls Try.prog 25 #[.slice a 0 cap] w fun e w' => e = .returned (.slice a 0 cap) ∧ w' = w := by
  go_enter Try.func25, Try.ntmps25
  go_wp2
  go_ret
  exact ⟨rfl, rfl⟩
def impl_LabelsBoth.f (l0 l1 : List S35) : Option (List S35) := if l0.length + l1.length ≤ 4194304 then some (Lib.compactUpTo ((l0 ++ l1).mergeSort fun x y => !(impl_LabelsBoth.lt y x)).toArray (l0.length + l1.length)) else none
open Go.Sort Go.Proofs Go.Lib in
theorem impl_LabelsBoth.rest (w w1 W2 : World) (v : Value) (xs : List S35) (hl : xs.length ≤ 4194304) (hw1 : Below w.heap.size w w1) (hs1 : w.heap.size ≤ w1.heap.size) (hR : Kd.R k35 35 W2 w1.heap.size (fun _ => True) v xs) (hB : Below w1.heap.size w1 W2) :
    Calls Try.prog 23 #[v, .func (.func 24) #[] #[]] W2 fun e W3 => e = .returned (.tuple #[]) ∧ Calls Try.prog 25 #[v] W3 fun e W4 => ∃ v0, e = .returned v0 ∧ Kd.R k35 35 W4 w.heap.size (fun _ => True) v0 (compactUpTo (xs.mergeSort fun x y => !(impl_LabelsBoth.lt y x)).toArray xs.length) ∧ Below w.heap.size w W4 := by
  have hB2 : Below w.heap.size w W2 := hw1.trans (hB.mono hs1)
  by_cases h0 : xs = []
  · subst h0
    obtain ⟨A, c, rfl⟩ := Kd.R_slice hR
    refine (AnyF.slices_SortFunc_none { Try.laysSlsf6_f23 with } A c _ W2).mono ?_
    rintro e W3 ⟨rfl, rfl⟩
    refine ⟨rfl, (impl_LabelsBoth.compact_none A c _).mono ?_⟩
    rintro e W4 ⟨rfl, rfl⟩
    exact ⟨_, rfl, Kd.R_lower hR hs1, hB2⟩
  · have hR0 := hR
    obtain ⟨_, inner, ⟨hlen, hor⟩, hreps⟩ := hR
    rcases hor with ⟨rfl, hz⟩ | ⟨g, cap, cur, rfl, hg, hh, hn, hcap, hsz, htake⟩
    · exact absurd (List.eq_nil_of_length_eq_zero hz) h0
    have hH : HoldsK impl_LabelsBoth.enc 2 W2 g 0 xs.toArray := impl_LabelsBoth.inn W2 w1.heap.size xs g cap cur inner hh htake (fun x cs h => k35_openM h) hreps
    have hgs : g < W2.heap.size := (Array.getElem?_eq_some_iff.1 hh).1
    have eg : ∀ args w, (callFunc 24 args).run Try.prog w = .ok (.enter 24 args) w := enters_of Try.func24 (by kernel_rfl) rfl
    have hsort := AnyQ.slices_SortFunc_total Try.laysSlsf6_f23 2 Try.isAgg35 Try.sizeOf35 impl_LabelsBoth.enc (fun _ => rfl) (fun x v hv => by simp [impl_LabelsBoth.enc] at hv; rcases hv with rfl | rfl <;> rfl) impl_LabelsBoth.cf impl_LabelsBoth.swo 24 #[] g 0 cap xs.toArray W2 eg (impl_LabelsBoth.lays g 0 _ W2) hH hgs (by simp; omega) (fun x y h1 h2 => by rw [impl_LabelsBoth.lt_cf] at h1 h2; exact impl_LabelsBoth.so.tot x y h1 h2)
    rw [impl_LabelsBoth.lt_cf] at hsort
    obtain ⟨ss, hss⟩ : ∃ ss, ss = (xs.mergeSort fun x y => !(impl_LabelsBoth.lt y x)) := ⟨_, rfl⟩
    rw [show xs.toArray.toList = xs from rfl, ← hss] at hsort
    rw [← hss]
    have hsl : ss.length = xs.length := by rw [hss, List.length_mergeSort]
    have hsort' : Calls Try.prog 23 #[.slice (some ⟨g, 0, none⟩) xs.length cap, .func (.func 24) #[] #[]] W2 fun e w' => e = .returned (.tuple #[]) ∧ ∃ n os, w' = sortWorldK impl_LabelsBoth.enc 2 W2 g 0 n ss.toArray os := hsort
    refine hsort'.mono ?_
    rintro e W3 ⟨rfl, n, os, rfl⟩
    have hH3 : HoldsK impl_LabelsBoth.enc 2 (sortWorldK impl_LabelsBoth.enc 2 W2 g 0 n ss.toArray os) g 0 ss.toArray := by
      unfold sortWorldK
      exact holdsK_grow _ _ _ _ _ _ _ (by unfold putRowK; rw [size_putRow]; exact hgs) (holdsK_putRowK impl_LabelsBoth.enc 2 _ g 0 xs.toArray ss.toArray (holdsK_ahead _ _ _ _ _ _ _ hH) (by simpa using hsl))
    have hcomp := impl_LabelsBoth.compact g 0 cap ss.toArray (sortWorldK impl_LabelsBoth.enc 2 W2 g 0 n ss.toArray os) hH3 (by simp; omega) (by simp; omega)
    have e3 : ss.toArray.size = xs.length := by simp [hsl]
    rw [e3] at hcomp
    refine ⟨rfl, hcomp.mono ?_⟩
    rintro e W4 ⟨rfl, q, F, rfl, hF, hFr⟩
    have hm : (compactUpTo ss.toArray xs.length).length ≤ xs.length := by
      unfold compactUpTo
      rw [List.length_map]
      have := List.length_filter_le (keeps ss.toArray) (List.range xs.length)
      rw [List.length_range] at this
      exact this
    have hh3 : (sortWorldK impl_LabelsBoth.enc 2 W2 g 0 n ss.toArray os).heap[g]? = some (.cells (putCells id 0 (flatK impl_LabelsBoth.enc 2 ss.toArray) cur) 35 (0, 0)) := by
      unfold sortWorldK putRowK
      rw [heap_grow_old _ _ (by rw [size_putRow]; exact hgs)]
      exact impl_LabelsBoth.put_heap (Sort.ahead W2 n) g _ cur 35 hh
    refine ⟨_, rfl, impl_LabelsBoth.out _ g w.heap.size xs.length _ cap q F _ _ hh3 (by omega) rfl (by omega) hcap (by simp [putCells, (show cur.size = cap * 2 from hsz)]) hF hm hFr, ?_⟩
    refine impl_LabelsBoth.put_below ?_ g 0 (by omega) F
    unfold sortWorldK putRowK
    have h5 : Below w.heap.size w (putRow id (Sort.ahead W2 n) g 0 (flatK impl_LabelsBoth.enc 2 ss.toArray)) := impl_LabelsBoth.put_below (w1 := Sort.ahead W2 n) ⟨hB2.os, hB2.tape, hB2.output, hB2.size, hB2.block⟩ g 0 (by omega) _
    have h6 := impl_LabelsBoth.grow_below h5 (by rw [size_putRow]; exact hB2.size) os
    exact ⟨h6.os, h6.tape, h6.output, h6.size, h6.block⟩
set_option maxHeartbeats 4000000 in
theorem impl_LabelsBoth.calls (A0 : Option Addr) (c0 : Nat) (l0 : List S35) (A1 : Option Addr) (c1 : Nat) (l1 : List S35) (r : List S35) (w : World) (hr0 : Kd.C k35 w A0 l0.length l0) (hc0 : l0.length ≤ c0) (hr1 : Kd.C k35 w A1 l1.length l1) (hc1 : l1.length ≤ c1) (h : impl_LabelsBoth.f l0 l1 = some r) :
    Calls Try.prog 11 #[.slice A0 l0.length c0, .slice A1 l1.length c1] w fun e w' => ∃ v0_ : Value, e = .returned (v0_) ∧ Kd.R k35 35 w' w.heap.size (fun _ => True) v0_ r ∧ Below w.heap.size w w' := by
  unfold impl_LabelsBoth.f at h
  by_cases hl : l0.length + l1.length ≤ 4194304
  · rw [if_pos hl] at h
    obtain rfl := Option.some.inj h
    clear h
    have hb1 : Below w.heap.size w (w.alloc (.cells #[.slice A0 l0.length c0, .slice A1 l1.length c1] 25)) := (Below.refl _ _).alloc (Nat.le_refl _) _
    have hcon := impl_LabelsBoth.concat w.heap.size A0 c0 l0 A1 c1 l1 (w.alloc (.cells #[.slice A0 l0.length c0, .slice A1 l1.length c1] 25)) (Kd.C_below hr0 hb1) hc0 (Kd.C_below hr1 hb1) hc1 hl (by simp) (by simp) (by simp)
    have hrest := fun v W2 => impl_LabelsBoth.rest w (w.alloc (.cells #[.slice A0 l0.length c0, .slice A1 l1.length c1] 25)) W2 v (l0 ++ l1) (by rw [List.length_append]; exact hl) hb1 (by simp)
    rw [List.length_append] at hrest
    have HR := Aside0.mk hrest
    clear hrest hr0 hr1 hc0 hc1 hb1 hl
    generalize (Lib.compactUpTo ((l0 ++ l1).mergeSort fun x y => !(impl_LabelsBoth.lt y x)).toArray (l0.length + l1.length)) = r at HR ⊢
    generalize l0.length = n0 at hcon HR ⊢
    generalize l1.length = n1 at hcon HR ⊢
    go_enter Try.func11, Try.ntmps11
    go_wp2_with (first | (go_at_call 22; refine hcon.mono ?_; rintro e w' ⟨v, rfl, hR, hB⟩; have hs := HR.out v w' hR hB; clear hR hB) | (go_at_call 23; refine hs.mono ?_; rintro e w' ⟨rfl, hc⟩; clear hs) | (go_at_call 25; refine hc.mono ?_; rintro e w' ⟨v0, rfl, hR2, hB2⟩; clear hc; have R2 := Aside0.mk hR2; have B2 := Aside0.mk hB2; clear hR2 hB2))
    go_ret
    exact ⟨_, rfl, R2.out, B2.out⟩
  · rw [if_neg hl] at h
    cases h


end Go.Proofs.Ytckdocofmffheaa.Q
