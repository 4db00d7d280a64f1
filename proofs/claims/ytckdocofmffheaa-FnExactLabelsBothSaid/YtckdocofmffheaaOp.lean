/- Readings of this program's own structs: what can be read as data of such a type is of the kind by which the printed walks read it. No condition. (Printed by wip/tools/rowx.py.) -/
import Derived.Test.YtckdocofmffheaaRow
import Derived.Test.YtckdocofmffheaaQ0
import Derived.KernelRfl
namespace Go.Proofs.Ytckdocofmffheaa.Pv
open Go.RowKit Go.Proofs.YtckdocofmffheaaW.PrintWords
def g32 (x : Q.S32) : Prop := (gI .i64) x.f0 ∧ gS x.f1
theorem open32 : Opens Try.prog 32 Q.k32 g32 := by
  have h := opens_struct Try.underlying32 (by kernel_rfl) (opensF_cons rfl (by kernel_rfl) (opens_int Try.underlying3) (opensF_one rfl (by kernel_rfl) (opens_string Try.underlying9)))
  exact opens_iso (f := fun x : Q.S32 => (x.f0, x.f1)) (fun p => ⟨p.1, p.2⟩) (fun _ => rfl) h
end Go.Proofs.Ytckdocofmffheaa.Pv
