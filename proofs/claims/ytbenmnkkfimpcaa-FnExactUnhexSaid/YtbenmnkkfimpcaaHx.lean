/- Texts as hexadecimal digits and back: what the program and the reference come to. No condition beyond the sizes. -/
import Derived.Test.YtbenmnkkfimpcaaBy
import Derived.Test.YtbenmnkkfimpcaaQ1
import Derived.Test.YtbenmnkkfimpcaaQ2
import Derived.Test.YtbenmnkkfimpcaaQ4
import Derived.Test.YtbenmnkkfimpcaaQ5
namespace Go.Proofs.Ytbenmnkkfimpcaa.Pv
set_option linter.unusedSimpArgs false
set_option linter.unusedVariables false
open Go.RowKit Go.Proofs.Ytbenmnkkfimpcaa.Q Go.Proofs.YtbenmnkkfimpcaaW.PrintWords Go.Proofs.YtbenmnkkfimpcaaW.PrintLast Go.Proofs.YtbenmnkkfimpcaaW.PrintMore
def fig (n : Int) : Int := if n < 10 then 48 + n else 87 + n
def hexOf (l : List Int) : List Int := l.flatMap fun b => [fig (b / 16), fig (b % 16)]
abbrev digits16 : ByteArray := ⟨#[48, 49, 50, 51, 52, 53, 54, 55, 56, 57, 97, 98, 99, 100, 101, 102]⟩
theorem figure_eq (n : Int) (h0 : 0 ≤ n) (h1 : n < 16) : spec_l01Figure.f n = some (fig n) := by
  unfold spec_l01Figure.f fig
  by_cases h : n < 10
  · rw [if_pos h, if_pos h, w_id (by omega) (by omega)]
    congr 1
    omega
  · rw [if_neg h, if_neg h, w_id (x := 97 + n) (by omega) (by omega), w_id (by omega) (by omega)]
    congr 1
    omega
theorem and15 (b : Int) (h0 : 0 ≤ b) (h1 : b ≤ 255) : Go.bits .and .u8 b 15 = b % 16 := by
  have key : ∀ b : Fin 256, Go.bits .and .u8 (b.val : Int) 15 = (b.val : Int) % 16 := by decide +kernel
  have := key ⟨b.toNat, by omega⟩
  simpa [Int.toNat_of_nonneg h0] using this
theorem digit_at (n : Int) (h0 : 0 ≤ n) (h1 : n < 16) : bt digits16 n = fig n := by
  have key : ∀ b : Fin 16, bt digits16 (b.val : Int) = fig (b.val : Int) := by decide +kernel
  have := key ⟨n.toNat, by omega⟩
  simpa [Int.toNat_of_nonneg h0] using this
theorem hexOf_length (l : List Int) : (hexOf l).length = 2 * l.length := by
  induction l with
  | nil => rfl
  | cons x l ih =>
    have : hexOf (x :: l) = [fig (x / 16), fig (x % 16)] ++ hexOf l := rfl
    rw [this, List.length_append, ih]
    simp only [List.length_cons, List.length_nil]
    omega
theorem spec_hex_l0 (s : ByteArray) (hs : s.size ≤ 1048576) : ∀ (d i : Nat) (acc : List Int), i + d = s.size → acc.length ≤ 2 * i → Ev (fun k => spec_Hex.l0 k s acc (i : Int)) (strOfNums (acc ++ hexOf ((bytesOf s).drop i)), true) := by
  intro d
  induction d with
  | zero =>
    intro i acc h _
    refine Ev.succ ?_
    simp only [spec_Hex.l0]
    refine Ev.neg (by omega) (Ev.val ?_)
    rw [List.drop_eq_nil_iff.2 (by rw [bl_length]; omega)]
    simp [hexOf]
  | succ d ih =>
    intro i acc h hl
    obtain ⟨r0, r1⟩ := bt_range s i
    have hd := bl_drop s i (by omega)
    refine Ev.succ ?_
    simp only [spec_Hex.l0]
    rw [w_id (x := bt s (i : Int)) (by omega) (by omega)]
    have e1 : wrap64 (Int.tdiv (bt s (i : Int)) 16) = bt s (i : Int) / 16 := by
      rw [Int.tdiv_eq_ediv_of_nonneg r0]
      exact w_id (by omega) (by omega)
    have e2 : Int.tmod (bt s (i : Int)) 16 = bt s (i : Int) % 16 := Int.tmod_eq_emod_of_nonneg r0
    rw [e1, e2, figure_eq _ (by omega) (by omega), figure_eq _ (by omega) (by omega), wS i (by omega)]
    refine Ev.pos (by omega) (Ev.pos (by omega) (Ev.some_bind (Ev.some_bind (Ev.some_bind (Ev.pos (by simp only [List.length_cons, List.length_nil]; omega) ?_)))))
    refine Ev.cast (ih (i + 1) _ (by omega) (by simp only [List.length_append, List.length_cons, List.length_nil]; omega)) ?_
    rw [hd, List.append_assoc]
    rfl
theorem ev_spec_Hex (s : ByteArray) : Ev (fun k => spec_Hex.f k s) (if s.size > 20000 then (⟨#[]⟩, false) else (strOfNums (hexOf (bytesOf s)), true)) := by
  unfold spec_Hex.f
  by_cases h : s.size > 20000
  · rw [if_pos h]
    exact Ev.pos (by omega) (Ev.val rfl)
  · rw [if_neg h]
    refine Ev.neg (by omega) (Ev.cast (spec_hex_l0 s (by omega) s.size 0 [] (by omega) (by simp)) ?_)
    rw [List.drop_zero, List.nil_append]
theorem impl_hex_l0 (s : ByteArray) (hs : s.size ≤ 1048576) : ∀ (d i : Nat) (acc : List Int), i + d = s.size → acc.length ≤ 2 * i → Ev (fun k => impl_hex.l0 k s acc (s.size : Int) (i : Int)) (strOfNums (acc ++ hexOf ((bytesOf s).drop i))) := by
  intro d
  induction d with
  | zero =>
    intro i acc h _
    refine Ev.succ ?_
    simp only [impl_hex.l0]
    refine Ev.neg (by omega) (Ev.val ?_)
    rw [List.drop_eq_nil_iff.2 (by rw [bl_length]; omega)]
    simp [hexOf]
  | succ d ih =>
    intro i acc h hl
    obtain ⟨r0, r1⟩ := bt_range s i
    have hd := bl_drop s i (by omega)
    refine Ev.succ ?_
    simp only [impl_hex.l0]
    rw [and15 _ r0 r1, digit_at _ (by omega) (by omega), digit_at _ (by omega) (by omega), wS i (by omega)]
    refine Ev.pos (by omega) (Ev.pos (by omega) (Ev.pos (by omega) (Ev.pos (by omega) (Ev.pos (by omega) (Ev.pos (by omega) (Ev.pos (by omega) (Ev.some_bind (Ev.pos (by simp only [List.length_cons, List.length_nil]; omega) ?_))))))))
    refine Ev.cast (ih (i + 1) _ (by omega) (by simp only [List.length_append, List.length_cons, List.length_nil]; omega)) ?_
    rw [hd, List.append_assoc]
    rfl
theorem ev_hex (s : ByteArray) (hs : s.size ≤ 1048576) : Ev (fun k => impl_hex.f k s) (strOfNums (hexOf (bytesOf s))) := by
  unfold impl_hex.f
  rw [w_id (x := 2 * (s.size : Int)) (by omega) (by omega)]
  refine Ev.pos (by omega) (Ev.pos (by omega) (Ev.cast (impl_hex_l0 s hs s.size 0 (List.replicate 0 0) (by omega) (by simp)) ?_))
  rw [List.drop_zero]
  rfl
theorem ev_Hex (s : ByteArray) : Ev (fun k => impl_Hex.f k s) (if s.size > 20000 then (⟨#[]⟩, false) else (strOfNums (hexOf (bytesOf s)), true)) := by
  unfold impl_Hex.f
  by_cases h : s.size > 20000
  · rw [if_pos h]
    exact Ev.pos (by omega) (Ev.val rfl)
  · rw [if_neg h]
    exact Ev.neg (by omega) (Ev.bnd (ev_hex s (by omega)) (Ev.val rfl))
/-- The value of a digit, -1 of any other sign. -/
def dgv (c : Int) : Int := if 48 ≤ c ∧ c ≤ 57 then c - 48 else if 97 ≤ c ∧ c ≤ 102 then c - 87 else -1
theorem dgv_range (c : Int) : -1 ≤ dgv c ∧ dgv c ≤ 15 := by
  unfold dgv
  split
  · omega
  · split <;> omega
theorem ev_value (c : Int) (h0 : 0 ≤ c) (h1 : c ≤ 255) : Ev (fun k => spec_l01Value.f k c) (dgv c) := by
  have w1 := w_id (x := c) (by omega) (by omega)
  have w2 := w_id (x := c - 48) (by omega) (by omega)
  have w3 := w_id (x := c - 97) (by omega) (by omega)
  have w4 := w_id (x := c - 97 + 10) (by omega) (by omega)
  have yes : 48 ≤ c ∧ c ≤ 57 → Ev (fun k => spec_l01Value.j0 k c true) (dgv c) := by
    intro h
    refine Ev.succ ?_
    simp only [spec_l01Value.j0]
    rw [w1, w2]
    refine Ev.pos trivial (Ev.val ?_)
    unfold dgv
    rw [if_pos h]
  have no : ¬ (48 ≤ c ∧ c ≤ 57) → Ev (fun k => spec_l01Value.j0 k c false) (dgv c) := by
    intro h
    refine Ev.succ ?_
    simp only [spec_l01Value.j0]
    rw [w1, w3, w4]
    unfold dgv
    rw [if_neg h]
    by_cases h2 : 97 ≤ c ∧ c ≤ 102
    · rw [if_pos h2]
      exact Ev.neg (by simp) (Ev.pos (by omega) (Ev.pos (by omega) (Ev.val (by omega))))
    · rw [if_neg h2]
      refine Ev.neg (by simp) (Ev.ite (fun h3 => Ev.neg (by omega) (Ev.val rfl)) (fun _ => Ev.val rfl))
  unfold spec_l01Value.f
  refine Ev.ite (fun h => ?_) (fun h => no (by omega))
  by_cases h2 : c ≤ 57
  · rw [decide_eq_true h2]
    exact yes (by omega)
  · rw [decide_eq_false h2]
    exact no (by omega)
theorem index_digit (c : Int) (h0 : 0 ≤ c) (h1 : c ≤ 255) : strings_IndexByte.f digits16 c = some (dgv c) := by
  have key : ∀ b : Fin 256, Lib.indexByte digits16.data.toList ((b.val : Int)).toNat.toUInt8 = dgv (b.val : Int) := by decide +kernel
  have := key ⟨c.toNat, by omega⟩
  simp only [Int.toNat_of_nonneg h0] at this
  show (stringslite_IndexByte.f digits16 c).bind _ = _
  unfold stringslite_IndexByte.f
  rw [this]
  rfl
theorem or4 (h l : Int) (h0 : 0 ≤ h) (h1 : h ≤ 15) (l0 : 0 ≤ l) (l1 : l ≤ 15) : Go.bits .or .i64 (h * 16) l = 16 * h + l := by
  have key : ∀ (h l : Fin 16), Go.bits .or .i64 ((h.val : Int) * 16) (l.val : Int) = 16 * (h.val : Int) + (l.val : Int) := by decide +kernel
  have := key ⟨h.toNat, by omega⟩ ⟨l.toNat, by omega⟩
  simpa [Int.toNat_of_nonneg h0, Int.toNat_of_nonneg l0] using this
def unhexL : List Int → Option (List Int)
  | [] => some []
  | [_] => none
  | h :: l :: r => if dgv h < 0 ∨ dgv l < 0 then none else (unhexL r).map fun q => (16 * dgv h + dgv l) :: q
def unEnd (acc : List Int) : Option (List Int) → ByteArray × Bool
  | none => (⟨#[]⟩, false)
  | some r => (strOfNums (acc ++ r), true)
theorem unhex_two (h l : Int) (r acc : List Int) : unEnd acc (unhexL (h :: l :: r)) = if dgv h < 0 ∨ dgv l < 0 then (⟨#[]⟩, false) else unEnd (acc ++ [16 * dgv h + dgv l]) (unhexL r) := by
  have e : unhexL (h :: l :: r) = if dgv h < 0 ∨ dgv l < 0 then none else (unhexL r).map fun q => (16 * dgv h + dgv l) :: q := by rw [unhexL]
  rw [e]
  by_cases hc : dgv h < 0 ∨ dgv l < 0
  · rw [if_pos hc, if_pos hc]
    rfl
  · rw [if_neg hc, if_neg hc]
    cases unhexL r with
    | none => rfl
    | some q => simp [unEnd]
theorem unhex_loop (s : ByteArray) (hs : s.size ≤ 1048576) (L : Nat → List Int → Int → Option (ByteArray × Bool)) (h0 : ∀ acc, Ev (fun k => L k acc (s.size : Int)) (strOfNums acc, true))
    (h1 : ∀ (i : Nat) (acc : List Int) (r : ByteArray × Bool), i + 2 ≤ s.size → acc.length ≤ s.size → (dgv (bt s (i : Int)) < 0 ∨ dgv (bt s ((i + 1 : Nat) : Int)) < 0 → r = (⟨#[]⟩, false)) →
      (¬ (dgv (bt s (i : Int)) < 0 ∨ dgv (bt s ((i + 1 : Nat) : Int)) < 0) → Ev (fun k => L k (acc ++ [16 * dgv (bt s (i : Int)) + dgv (bt s ((i + 1 : Nat) : Int))]) ((i + 2 : Nat) : Int)) r) → Ev (fun k => L k acc (i : Int)) r) :
    ∀ (d i : Nat) (acc : List Int), i + 2 * d = s.size → acc.length ≤ i → Ev (fun k => L k acc (i : Int)) (unEnd acc (unhexL ((bytesOf s).drop i))) := by
  intro d
  induction d with
  | zero =>
    intro i acc h _
    obtain rfl : i = s.size := by omega
    rw [List.drop_eq_nil_iff.2 (by rw [bl_length]; omega)]
    refine Ev.cast (h0 acc) ?_
    simp [unEnd, unhexL]
  | succ d ih =>
    intro i acc h hl
    rw [bl_drop s i (by omega), bl_drop s (i + 1) (by omega), unhex_two]
    refine h1 i acc _ (by omega) (by omega) (fun hc => if_pos hc) (fun hc => ?_)
    rw [if_neg hc]
    exact ih (i + 2) _ (by omega) (by simp only [List.length_append, List.length_cons, List.length_nil]; omega)
def unRes (s : ByteArray) : ByteArray × Bool := if s.size > 40000 ∨ s.size % 2 ≠ 0 then (⟨#[]⟩, false) else unEnd [] (unhexL (bytesOf s))
theorem ev_spec_Unhex (s : ByteArray) : Ev (fun k => spec_Unhex.f k s) (unRes s) := by
  have no : Ev (fun k => spec_Unhex.j0 k s true) (⟨#[]⟩, false) := by
    refine Ev.succ ?_
    simp only [spec_Unhex.j0]
    exact Ev.pos trivial (Ev.val rfl)
  unfold spec_Unhex.f unRes
  by_cases h1 : s.size > 40000
  · rw [if_pos (.inl h1)]
    exact Ev.pos (by omega) no
  refine Ev.neg (by omega) ?_
  by_cases h2 : s.size % 2 = 0
  · rw [if_neg (by omega), show (((s.size : Int) % 2) != 0) = false from by rw [bne_eq_false_iff_eq]; omega]
    refine Ev.succ ?_
    simp only [spec_Unhex.j0]
    refine Ev.neg (by simp) ?_
    have := unhex_loop s (by omega) (fun k acc i => spec_Unhex.l0 k s acc i) (fun acc => by
      refine Ev.succ ?_
      simp only [spec_Unhex.l0]
      exact Ev.neg (by omega) (Ev.val rfl)) (fun i acc r hi hl hn hy => by
      obtain ⟨a0, a1⟩ := bt_range s i
      obtain ⟨b0, b1⟩ := bt_range s ((i + 1 : Nat) : Int)
      have ra := dgv_range (bt s (i : Int))
      have rb := dgv_range (bt s ((i + 1 : Nat) : Int))
      refine Ev.succ ?_
      simp only [spec_Unhex.l0]
      rw [wS i (by omega), w_id (x := (i : Int) + 2) (by omega) (by omega)]
      refine Ev.pos (by omega) (Ev.pos (by omega) (Ev.bnd (ev_value _ a0 a1) (Ev.pos (by omega) (Ev.pos (by omega) (Ev.bnd (ev_value _ b0 b1) ?_)))))
      refine Ev.ite (fun h => Ev.val (hn (.inl h)).symm) (fun ha => Ev.ite (fun h => Ev.val (hn (.inr h)).symm) (fun hb => Ev.pos (by omega) ?_))
      rw [w_id (x := 16 * dgv (bt s (i : Int))) (by omega) (by omega), w_id (by omega) (by omega), Int.emod_eq_of_lt (by omega) (by omega)]
      exact hy (by omega)) (s.size / 2) 0 [] (by omega) (by simp)
    rwa [List.drop_zero] at this
  · rw [if_pos (.inr h2), show (((s.size : Int) % 2) != 0) = true from by rw [bne_iff_ne]; omega]
    exact no
theorem ev_Unhex (s : ByteArray) : Ev (fun k => impl_Unhex.f k s) (unRes s) := by
  have no : Ev (fun k => impl_Unhex.j0 k s true) (⟨#[]⟩, false) := by
    refine Ev.succ ?_
    simp only [impl_Unhex.j0]
    exact Ev.pos trivial (Ev.val rfl)
  unfold impl_Unhex.f unRes
  by_cases h1 : s.size > 40000
  · rw [if_pos (.inl h1)]
    exact Ev.pos (by omega) no
  refine Ev.neg (by omega) ?_
  by_cases h2 : s.size % 2 = 0
  · rw [if_neg (by omega), show (((s.size : Int) % 2) != 0) = false from by rw [bne_eq_false_iff_eq]; omega]
    refine Ev.succ ?_
    simp only [impl_Unhex.j0]
    rw [w_id (x := (s.size : Int) / 2) (by omega) (by omega)]
    refine Ev.neg (by simp) (Ev.pos (by omega) (Ev.pos (by omega) ?_))
    have := unhex_loop s (by omega) (fun k acc i => impl_Unhex.l0 k s acc i) (fun acc => by
      refine Ev.succ ?_
      simp only [impl_Unhex.l0]
      exact Ev.neg (by omega) (Ev.val rfl)) (fun i acc r hi hl hn hy => by
      obtain ⟨a0, a1⟩ := bt_range s i
      obtain ⟨b0, b1⟩ := bt_range s ((i + 1 : Nat) : Int)
      have ra := dgv_range (bt s (i : Int))
      have rb := dgv_range (bt s ((i + 1 : Nat) : Int))
      refine Ev.succ ?_
      simp only [impl_Unhex.l0]
      rw [wS i (by omega), w_id (x := (i : Int) + 2) (by omega) (by omega), index_digit _ a0 a1, index_digit _ b0 b1]
      refine Ev.pos (by omega) (Ev.pos (by omega) (Ev.some_bind (Ev.pos (by omega) (Ev.pos (by omega) (Ev.some_bind ?_)))))
      refine Ev.ite (fun h => Ev.val (hn (.inl h)).symm) (fun ha => Ev.ite (fun h => Ev.val (hn (.inr h)).symm) (fun hb => Ev.pos (by omega) ?_))
      rw [w_id (x := dgv (bt s (i : Int)) * 16) (by omega) (by omega), or4 _ _ (by omega) (by omega) (by omega) (by omega), Int.emod_eq_of_lt (by omega) (by omega)]
      exact hy (by omega)) (s.size / 2) 0 (List.replicate 0 0) (by omega) (by simp)
    rwa [List.drop_zero] at this
  · rw [if_pos (.inr h2), show (((s.size : Int) % 2) != 0) = true from by rw [bne_iff_ne]; omega]
    exact no
end Go.Proofs.Ytbenmnkkfimpcaa.Pv
