/- Small laws on 'from some number of rounds on' (Ev), on bytes and on whole numbers, that the pure proofs of this claim use. No condition. -/
import Derived.Test.YtbenmnkkfimpcaaDoorWWords
import Derived.Test.YtbenmnkkfimpcaaDoorWMore
namespace Go.Proofs.YtbenmnkkfimpcaaDoor.Pv
set_option linter.unusedSimpArgs false
set_option linter.unusedVariables false
open Go.RowKit Go.Proofs.YtbenmnkkfimpcaaDoorW.PrintWords Go.Proofs.YtbenmnkkfimpcaaDoorW.PrintLast Go.Proofs.YtbenmnkkfimpcaaDoorW.PrintMore
section
variable {α β : Type} {r : α}
theorem Ev.succ {g : Nat → Option α} (h : Ev (fun k => g (k + 1)) r) : Ev g r := Ev.step (fun _ => rfl) h
theorem Ev.pos {c : Prop} [Decidable c] {A B : Nat → Option α} (hc : c) (h : Ev A r) : Ev (fun k => if c then A k else B k) r :=
  Ev.congr (fun _ => if_pos hc) h
theorem Ev.neg {c : Prop} [Decidable c] {A B : Nat → Option α} (hc : ¬ c) (h : Ev B r) : Ev (fun k => if c then A k else B k) r :=
  Ev.congr (fun _ => if_neg hc) h
theorem Ev.ite {c : Prop} [Decidable c] {A B : Nat → Option α} (h1 : c → Ev A r) (h2 : ¬ c → Ev B r) : Ev (fun k => if c then A k else B k) r := by
  by_cases hc : c
  · exact Ev.pos hc (h1 hc)
  · exact Ev.neg hc (h2 hc)
theorem Ev.val {x : α} (h : x = r) : Ev (fun _ => some x) r := by
  subst h
  exact Ev.now x
theorem Ev.cast {g : Nat → Option α} {q : α} (h : Ev g q) (e : q = r) : Ev g r := e ▸ h
theorem Ev.bnd {g : Nat → Option β} {f : Nat → β → Option α} {a : β} (h : Ev g a) (k : Ev (fun n => f n a) r) : Ev (fun n => (g n).bind (f n)) r := Ev.bind h k
theorem Ev.some_bind {a : β} {f : Nat → β → Option α} (k : Ev (fun n => f n a) r) : Ev (fun n => (some a).bind (f n)) r := k
theorem Ev.uniq {g : Nat → Option α} {a b : α} (h : Ev g a) (k : Ev g b) : a = b := by
  obtain ⟨K, h⟩ := h
  obtain ⟨K', k⟩ := k
  have h1 := h (max K K') (by omega)
  have h2 := k (max K K') (by omega)
  rw [h1] at h2
  exact Option.some.inj h2
end
/-! bytes -/
theorem bl_length (s : ByteArray) : (bytesOf s).length = s.size := bytesOf_length s
theorem bt_at (s : ByteArray) (i : Nat) (h : i < s.size) : bt s (i : Int) = (bytesOf s)[i]'(by rw [bl_length]; exact h) := by
  unfold bt bytesOf
  simp only [Int.toNat_natCast, List.getElem_map, Array.getElem_toList]
  rw [dif_pos h]
  rfl
theorem bl_drop (s : ByteArray) (i : Nat) (h : i < s.size) : (bytesOf s).drop i = bt s (i : Int) :: (bytesOf s).drop (i + 1) := by
  rw [bt_at s i h]
  exact List.drop_eq_getElem_cons (by rw [bl_length]; exact h)
theorem bt_range (s : ByteArray) (i : Int) : 0 ≤ bt s i ∧ bt s i ≤ 255 := by
  unfold bt
  split
  · rename_i h
    have := (s[i.toNat]'h).toNat_lt
    omega
  · omega
theorem wS (a : Nat) (h : a < 4611686018427387904) : wrap64 ((a : Int) + 1) = ((a + 1 : Nat) : Int) := by
  unfold wrap64
  omega
theorem wP (a : Nat) (h : a < 4611686018427387904) : wrap64 (((a + 1 : Nat) : Int) - 1) = (a : Int) := by
  unfold wrap64
  omega
theorem w_id {x : Int} (h0 : -9223372036854775808 ≤ x) (h1 : x ≤ 9223372036854775807) : wrap64 x = x := by
  unfold wrap64
  omega
end Go.Proofs.YtbenmnkkfimpcaaDoor.Pv
