/- The order of texts, byte by byte, is strict and total. No condition. -/
import Derived.Test.YtmhbikkldbcgkaaBy
import Derived.Test.YtmhbikkldbcgkaaSrt
namespace Go.Proofs.Ytmhbikkldbcgkaa.Pv
set_option linter.unusedSimpArgs false
set_option linter.unusedVariables false
open Go.RowKit Go.Proofs.YtmhbikkldbcgkaaW.PrintWords
theorem bless_irr : ∀ x : List UInt8, Op.bytesLess x x = false
  | [] => rfl
  | a :: x => by simp [Op.bytesLess, bless_irr x]
theorem bless_tr : ∀ x y z : List UInt8, Op.bytesLess x y = true → Op.bytesLess y z = true → Op.bytesLess x z = true
  | [], [], _, h, _ => by simp [Op.bytesLess] at h
  | _ :: _, [], _, h, _ => by simp [Op.bytesLess] at h
  | [], _ :: _, [], _, h => by simp [Op.bytesLess] at h
  | [], _ :: _, _ :: _, _, _ => rfl
  | _ :: _, _ :: _, [], _, h => by simp [Op.bytesLess] at h
  | a :: x, b :: y, c :: z, h1, h2 => by
    simp only [Op.bytesLess, Bool.or_eq_true, decide_eq_true_eq, Bool.and_eq_true, beq_iff_eq] at *
    rcases h1 with h1 | ⟨e1, h1⟩
    · rcases h2 with h2 | ⟨e2, h2⟩
      · exact .inl (UInt8.lt_trans h1 h2)
      · exact .inl (e2 ▸ h1)
    · rcases h2 with h2 | ⟨e2, h2⟩
      · exact .inl (e1 ▸ h2)
      · exact .inr ⟨e1.trans e2, bless_tr x y z h1 h2⟩
theorem bless_tot : ∀ x y : List UInt8, Op.bytesLess x y = false → Op.bytesLess y x = false → x = y
  | [], [], _, _ => rfl
  | [], _ :: _, h, _ => by simp [Op.bytesLess] at h
  | _ :: _, [], _, h => by simp [Op.bytesLess] at h
  | a :: x, b :: y, h1, h2 => by
    simp only [Op.bytesLess, Bool.or_eq_false_iff, decide_eq_false_iff_not] at h1 h2
    have e : a = b := UInt8.le_antisymm (UInt8.not_lt.1 h2.1) (UInt8.not_lt.1 h1.1)
    subst e
    have h1' := h1.2
    have h2' := h2.2
    simp only [beq_self_eq_true, Bool.true_and] at h1' h2'
    rw [bless_tot x y h1' h2']
def sLess (a b : ByteArray) : Bool := Op.bytesLess a.toList b.toList
theorem toList_eq_iff {a b : ByteArray} : a.toList = b.toList ↔ a = b :=
  ⟨fun h => by rw [ByteArray.toList_eq, ByteArray.toList_eq] at h; cases a; cases b; simp only at h; rw [Array.toList_inj.1 h], fun h => by rw [h]⟩
theorem sLess_so : SO sLess := ⟨fun x => bless_irr _, fun x y z => bless_tr _ _ _, fun x y h1 h2 => toList_eq_iff.1 (bless_tot _ _ h1 h2)⟩
/-- One element put behind what was put out, unless it is the last one. -/
def Push {α : Type} (out : List α) (x : α) (out' : List α) : Prop := (out' = out ++ [x] ∧ ∀ o, out.getLast? = some o → o ≠ x) ∨ (out' = out ∧ out.getLast? = some x)
theorem Mrg.push {α : Type} {lt : α → α → Bool} (h : SO lt) {out out' a b : List α} {x : α} (p : Push out x out') (m : Mrg lt out (x :: a) b) (hx : ∀ y ∈ b, lt y x = false) :
    Mrg lt out' a b ∧ (∀ z, z ∈ out' ↔ z ∈ out ∨ z = x) ∧ out'.length ≤ out.length + 1 := by
  rcases p with ⟨rfl, hn⟩ | ⟨rfl, hl⟩
  · exact ⟨m.put h hx hn, fun z => by simp, by simp⟩
  · have hm : x ∈ out' := by
      obtain ⟨q, hq⟩ := List.getLast?_eq_some_iff.1 hl
      rw [hq]
      simp
    refine ⟨m.skip, fun z => ⟨.inl, ?_⟩, by omega⟩
    rintro (h | rfl)
    · exact h
    · exact hm
end Go.Proofs.Ytmhbikkldbcgkaa.Pv
