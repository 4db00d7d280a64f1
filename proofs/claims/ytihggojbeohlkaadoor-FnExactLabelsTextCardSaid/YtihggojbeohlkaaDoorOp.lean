/- Readings of this program's own structs: what can be read as data of such a type is of the kind by which the printed walks read it. No condition. (Printed by wip/tools/rowx.py.) -/
import Derived.Test.YtihggojbeohlkaaDoorRow
import Derived.Test.YtihggojbeohlkaaDoorQ0
import Derived.KernelRfl
namespace Go.Proofs.YtihggojbeohlkaaDoor.Pv
open Go.RowKit Go.Proofs.YtihggojbeohlkaaDoorW.PrintWords
def g38 (x : Q.S38) : Prop := (gI .i64) x.f0 ∧ gS x.f1
theorem open38 : Opens Tryd.prog 38 Q.k38 g38 := by
  have h := opens_struct Tryd.underlying38 (by kernel_rfl) (opensF_cons rfl (by kernel_rfl) (opens_int Tryd.underlying3) (opensF_one rfl (by kernel_rfl) (opens_string Tryd.underlying9)))
  exact opens_iso (f := fun x : Q.S38 => (x.f0, x.f1)) (fun p => ⟨p.1, p.2⟩) (fun _ => rfl) h
end Go.Proofs.YtihggojbeohlkaaDoor.Pv
