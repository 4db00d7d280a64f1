/- Bytes of texts: what is joined, what is made of numbers, when two texts are one. No condition. -/
import Derived.Test.YtbenmnkkfimpcaaDoorEv
namespace Go.Proofs.YtbenmnkkfimpcaaDoor.Pv
set_option linter.unusedSimpArgs false
set_option linter.unusedVariables false
open Go.RowKit Go.Proofs.YtbenmnkkfimpcaaDoorW.PrintWords Go.Proofs.YtbenmnkkfimpcaaDoorW.PrintLast Go.Proofs.YtbenmnkkfimpcaaDoorW.PrintMore
theorem bl_append (a b : ByteArray) : bytesOf (a ++ b) = bytesOf a ++ bytesOf b := by
  unfold bytesOf
  rw [show (a ++ b).data = a.data ++ b.data from ByteArray.data_append, Array.toList_append, List.map_append]
theorem bl_inj {a b : ByteArray} (h : bytesOf a = bytesOf b) : a = b := by
  unfold bytesOf at h
  have h2 : a.data.toList = b.data.toList := by
    refine List.map_inj_right (f := fun b : UInt8 => (b.toNat : Int)) (fun x y e => ?_) |>.1 h
    exact UInt8.toNat_inj.1 (by exact_mod_cast e)
  cases a
  cases b
  simp only at h2
  rw [Array.toList_inj.1 h2]
theorem bl_nums {l : List Int} (h : ∀ x ∈ l, 0 ≤ x ∧ x ≤ 255) : bytesOf (strOfNums l) = l := by
  unfold bytesOf
  rw [strOfNums_data, List.map_map]
  refine (List.map_congr_left (g := id) (fun x hx => ?_)).trans (List.map_id l)
  have := h x hx
  show ((UInt8.ofNat x.toNat).toNat : Int) = x
  rw [UInt8.toNat_ofNat']
  omega
theorem bl_range (s : ByteArray) : ∀ x ∈ bytesOf s, 0 ≤ x ∧ x ≤ 255 := by
  intro x hx
  unfold bytesOf at hx
  obtain ⟨b, _, rfl⟩ := List.mem_map.1 hx
  have := b.toNat_lt
  omega
theorem nums_bl (s : ByteArray) : strOfNums (bytesOf s) = s := bl_inj (bl_nums (bl_range s))
theorem size_append (a b : ByteArray) : (a ++ b).size = a.size + b.size := ByteArray.size_append
theorem bl_toList {a b : ByteArray} (h : bytesOf a = bytesOf b) : a.toList = b.toList := by rw [bl_inj h]
theorem and255 (x : Int) : 0 ≤ Go.bits .and .i64 x 255 ∧ Go.bits .and .i64 x 255 ≤ 255 := by
  have h : (BitVec.ofInt 64 x &&& BitVec.ofInt 64 255).toNat ≤ 255 := by
    rw [BitVec.toNat_and]
    exact Nat.le_trans Nat.and_le_right (by decide)
  have e : Go.bits .and .i64 x 255 = (((BitVec.ofInt 64 x &&& BitVec.ofInt 64 255).toNat : Nat) : Int) := by
    unfold Go.bits
    show IntKind.i64.wrap (((BitVec.ofInt 64 x &&& BitVec.ofInt 64 255).toNat : Nat) : Int) = _
    rw [IntKind.wrap_i64]
    omega
  rw [e]
  omega
end Go.Proofs.YtbenmnkkfimpcaaDoor.Pv
