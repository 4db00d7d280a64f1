/- Readings of this program's own structs: what can be read as data of such a type is of the kind by which the printed walks read it. No condition. (Printed by wip/tools/rowx.py.) -/
import Derived.Test.YtbenmnkkfimpcaaRow
import Derived.Test.YtbenmnkkfimpcaaQ0
import Derived.KernelRfl
namespace Go.Proofs.Ytbenmnkkfimpcaa.Pv
open Go.RowKit Go.Proofs.YtbenmnkkfimpcaaW.PrintWords
end Go.Proofs.Ytbenmnkkfimpcaa.Pv
namespace Go.Proofs.Ytbenmnkkfimpcaa.Q
open Go.RowKit Go.Proofs.YtbenmnkkfimpcaaW.PrintWords
structure S42 where
  f0 : (Int)
  f1 : (ByteArray)
  f2 : (Int)
  f3 : (Int)
  f4 : (ByteArray)
  f5 : (ByteArray)
  f6 : (List S107)
def k42 : Kd S42 := Kd.iso (Kd.pair (Kd.int .i64) (Kd.pair Kd.string (Kd.pair (Kd.int .i64) (Kd.pair (Kd.int .i64) (Kd.pair Kd.string (Kd.pair Kd.string (Kd.slice 107 k107))))))) (fun x : S42 => (x.f0, x.f1, x.f2, x.f3, x.f4, x.f5, x.f6))
theorem k42_open {w : World} {x : S42} {cs : List Value} (h : k42.K w x cs) : ∃ A6 c6, cs = [.int .i64 x.f0, .string x.f1, .int .i64 x.f2, .int .i64 x.f3, .string x.f4, .string x.f5, .slice A6 x.f6.length c6] ∧ x.f6.length ≤ c6 ∧ Kd.C k107 w A6 x.f6.length x.f6 := by
  obtain ⟨_, _, rfl, rfl, ⟨_, _, rfl, rfl, ⟨_, _, rfl, rfl, ⟨_, _, rfl, rfl, ⟨_, _, rfl, rfl, ⟨_, _, rfl, rfl, ⟨A6, c6, rfl, l6, g6⟩⟩⟩⟩⟩⟩⟩ := h
  exact ⟨A6, c6, rfl, l6, g6⟩
end Go.Proofs.Ytbenmnkkfimpcaa.Q
namespace Go.Proofs.Ytbenmnkkfimpcaa.Pv
def g70 (x : Q.S70) : Prop := (gI .i64) x.f0 ∧ gS x.f1
theorem open70 : Opens Try.prog 70 Q.k70 g70 := by
  have h := opens_struct Try.underlying70 (by kernel_rfl) (opensF_cons rfl (by kernel_rfl) (opens_int Try.underlying3) (opensF_one rfl (by kernel_rfl) (opens_string Try.underlying9)))
  exact opens_iso (f := fun x : Q.S70 => (x.f0, x.f1)) (fun p => ⟨p.1, p.2⟩) (fun _ => rfl) h
def g107 (x : Q.S107) : Prop := gS x.f0 ∧ gS x.f1
theorem open107 : Opens Try.prog 107 Q.k107 g107 := by
  have h := opens_struct Try.underlying107 (by kernel_rfl) (opensF_cons rfl (by kernel_rfl) (opens_string Try.underlying9) (opensF_one rfl (by kernel_rfl) (opens_string Try.underlying9)))
  exact opens_iso (f := fun x : Q.S107 => (x.f0, x.f1)) (fun p => ⟨p.1, p.2⟩) (fun _ => rfl) h
def g42 (x : Q.S42) : Prop := (gI .i64) x.f0 ∧ gS x.f1 ∧ (gI .i64) x.f2 ∧ (gI .i64) x.f3 ∧ gS x.f4 ∧ gS x.f5 ∧ (gL g107) x.f6
theorem open42 : Opens Try.prog 42 Q.k42 g42 := by
  have h := opens_struct Try.underlying42 (by kernel_rfl) (opensF_cons rfl (by kernel_rfl) (opens_int Try.underlying3) (opensF_cons rfl (by kernel_rfl) (opens_string Try.underlying9) (opensF_cons rfl (by kernel_rfl) (opens_int Try.underlying3) (opensF_cons rfl (by kernel_rfl) (opens_int Try.underlying3) (opensF_cons rfl (by kernel_rfl) (opens_string Try.underlying9) (opensF_cons rfl (by kernel_rfl) (opens_string Try.underlying9) (opensF_one rfl (by kernel_rfl) (opens_slice Try.underlying40 (by kernel_rfl) open107))))))))
  exact opens_iso (f := fun x : Q.S42 => (x.f0, x.f1, x.f2, x.f3, x.f4, x.f5, x.f6)) (fun p => ⟨p.1, p.2.1, p.2.2.1, p.2.2.2.1, p.2.2.2.2.1, p.2.2.2.2.2.1, p.2.2.2.2.2.2⟩) (fun _ => rfl) h
end Go.Proofs.Ytbenmnkkfimpcaa.Pv
