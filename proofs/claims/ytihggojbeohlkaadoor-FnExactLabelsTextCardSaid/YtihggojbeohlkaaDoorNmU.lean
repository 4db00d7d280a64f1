/- What the Go function Under comes to, of the program and of the reference. No condition beyond the sizes. -/
import Derived.Test.YtihggojbeohlkaaDoorNmE
import Derived.Test.YtihggojbeohlkaaDoorQ0
namespace Go.Proofs.YtihggojbeohlkaaDoor.Pv
set_option linter.unusedSimpArgs false
set_option linter.unusedVariables false
open Go.RowKit Go.Proofs.YtihggojbeohlkaaDoor.Q Go.Proofs.YtihggojbeohlkaaDoorW.PrintWords Go.Proofs.YtihggojbeohlkaaDoorW.PrintLast Go.Proofs.YtihggojbeohlkaaDoorW.PrintMore
theorem toList_inj {a b : ByteArray} : a.toList = b.toList ↔ a = b := by
  rw [ByteArray.toList_eq, ByteArray.toList_eq]
  constructor
  · intro h
    cases a
    cases b
    simp only at h
    rw [Array.toList_inj.1 h]
  · rintro rfl
    rfl
theorem map_bl_inj : ∀ {xs ys : List ByteArray}, xs.map bytesOf = ys.map bytesOf → xs = ys
  | [], [], _ => rfl
  | [], _ :: _, h => by simp at h
  | _ :: _, [], h => by simp at h
  | x :: xs, y :: ys, h => by
    simp only [List.map_cons, List.cons.injEq] at h
    rw [bl_inj h.1, map_bl_inj h.2]
theorem nameOk_size {s : ByteArray} (h : nameOk (bytesOf s) = true) : s.size ≤ 40 := by
  unfold nameOk at h
  rw [Bool.and_eq_true] at h
  have := of_decide_eq_true h.1
  rwa [bl_length] at this
/-- Is the second name under the first? -/
def nmUnder (a b : ByteArray) : Bool := nameOk (bytesOf a) && (nameOk (bytesOf b) && decide (cutL 46 (bytesOf a) <+: cutL 46 (bytesOf b)))
theorem map_prefix {xs ys : List ByteArray} : xs.map bytesOf <+: ys.map bytesOf ↔ xs <+: ys := by
  constructor
  · intro h
    rw [List.prefix_iff_eq_take, List.length_map, ← List.map_take] at h
    rw [List.prefix_iff_eq_take]
    exact map_bl_inj h
  · rintro ⟨t, rfl⟩
    exact ⟨t.map bytesOf, by rw [List.map_append]⟩
end Go.Proofs.YtihggojbeohlkaaDoor.Pv
