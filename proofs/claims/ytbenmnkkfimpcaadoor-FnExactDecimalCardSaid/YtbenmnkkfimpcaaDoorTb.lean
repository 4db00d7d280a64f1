/- What package-level variables of Go's library hold when the call begins (the row lists it): it stays while the call runs. No condition. -/
import Derived.Test.YtbenmnkkfimpcaaDoorRows
import Derived.Test.YtbenmnkkfimpcaaDoorProg
import Derived.Below
import Derived.Lib.LaidTab
import Derived.Lib.Space
import Derived.Lib.ItoaNum
import Derived.Lib.AtoiAll
import Derived.Stop.LaidErr
import Derived.MakeChecks
import Derived.KernelRfl
import Derived.Sort.Grow
namespace Go.Proofs.YtbenmnkkfimpcaaDoor.Q
set_option linter.unusedSimpArgs false
set_option linter.unusedVariables false
open Go.RowKit
theorem var_below {P : Program} {w w' : World} {n : String} {cs : Array Value} (h : w.var? P n = some cs) (hb : Below w.heap.size w w') : w'.var? P n = some cs := by
  unfold World.var? at h ⊢
  cases hg : P.globalNamed n with
  | none => rw [hg] at h; cases h
  | some g =>
    rw [hg] at h
    simp only [Option.bind_some] at h ⊢
    have hlt : g < w.heap.size := by
      rcases Nat.lt_or_ge g w.heap.size with h' | h'
      · exact h'
      · rw [Array.getElem?_eq_none h'] at h; cases h
    rw [hb.block g hlt]
    exact h
theorem below_grow {B : Nat} {w w' : World} (h : Below B w w') (hB : B ≤ w'.heap.size) (os : Array Obj) : Below B w (Go.Sort.grow w' os) :=
  ⟨h.os, h.tape, h.output, Nat.le_trans h.size (by simp [Go.Sort.grow]), fun k hk => by
    rw [← h.block k hk]
    simp only [Go.Sort.grow]
    rw [Array.getElem?_append_left (by omega)]⟩
/-- the powers of ten. -/
def TabH (w : World) : Prop := Lib.TabIs Tryd.prog w "internal/strconv.uint64pow10" .u64 Lib.pow10Tab
/-- strconv's two sentinel errors. -/
def ErrH (w : World) : Prop := (∃ t p, w.var? Tryd.prog "strconv.ErrSyntax" = some #[.iface t p]) ∧ ∃ t p, w.var? Tryd.prog "strconv.ErrRange" = some #[.iface t p]
/-- which bytes are space. -/
def AscH (w : World) : Prop := Lib.TabIs Tryd.prog w "strings.asciiSpace" .u8 Lib.asciiSpaceTab
theorem TabH.below {w w' : World} (h : TabH w) (hb : Below w.heap.size w w') : TabH w' := var_below h hb
theorem AscH.below {w w' : World} (h : AscH w) (hb : Below w.heap.size w w') : AscH w' := var_below h hb
theorem ErrH.below {w w' : World} (h : ErrH w) (hb : Below w.heap.size w w') : ErrH w' := by
  obtain ⟨⟨t, p, h1⟩, t', p', h2⟩ := h
  exact ⟨⟨t, p, var_below h1 hb⟩, t', p', var_below h2 hb⟩
set_option maxRecDepth 100000 in
theorem tab_laid {W : World} {r : List (String × DataW Unit)} (h : laidMet Tryd.prog (("internal/strconv.uint64pow10", Rows.laid_internal_strconv_uint64pow10) :: r) W) : TabH W :=
  Lib.tabIs_of_head (rest := r) (g := 5) (t := 108) (e := 85) (n := 20) (by kernel_rfl) (by kernel_rfl) (by kernel_rfl) (by kernel_rfl) (by kernel_rfl) (by kernel_rfl) h
set_option maxRecDepth 100000 in
theorem asc_laid {W : World} {r : List (String × DataW Unit)} (h : laidMet Tryd.prog (("strings.asciiSpace", Rows.laid_strings_asciiSpace) :: r) W) : AscH W :=
  Lib.tabIs_of_head (rest := r) (g := 0) (t := 57) (e := 5) (n := 256) (by kernel_rfl) (by kernel_rfl) (by kernel_rfl) (by kernel_rfl) (by kernel_rfl) (by kernel_rfl) h
theorem tab_of3 {W : World} {a b : String × DataW Unit} {r : List (String × DataW Unit)} (h : laidMet Tryd.prog (a :: b :: ("internal/strconv.uint64pow10", Rows.laid_internal_strconv_uint64pow10) :: r) W) : TabH W := tab_laid h.tail.tail
theorem asc_of2 {W : World} {a : String × DataW Unit} {r : List (String × DataW Unit)} (h : laidMet Tryd.prog (a :: ("strings.asciiSpace", Rows.laid_strings_asciiSpace) :: r) W) : AscH W := asc_laid h.tail
end Go.Proofs.YtbenmnkkfimpcaaDoor.Q
