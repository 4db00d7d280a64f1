/- Readings of this program's own structs: what can be read as data of such a type is of the kind by which the printed walks read it. No condition. (Printed by wip/tools/rowx.py.) -/
import Derived.Test.YtckdocofmffheaaDoorRow
import Derived.Test.YtckdocofmffheaaDoorQ0
import Derived.KernelRfl
namespace Go.Proofs.YtckdocofmffheaaDoor.Pv
open Go.RowKit Go.Proofs.YtckdocofmffheaaDoorW.PrintWords
end Go.Proofs.YtckdocofmffheaaDoor.Pv
namespace Go.Proofs.YtckdocofmffheaaDoor.Q
open Go.RowKit Go.Proofs.YtckdocofmffheaaDoorW.PrintWords
structure S38 where
  f0 : (ByteArray)
  f1 : (Int)
  f2 : (ByteArray)
def k38 : Kd S38 := Kd.iso (Kd.pair Kd.string (Kd.pair (Kd.int .i64) Kd.string)) (fun x : S38 => (x.f0, x.f1, x.f2))
theorem k38_open {w : World} {x : S38} {cs : List Value} (h : k38.K w x cs) : cs = [.string x.f0, .int .i64 x.f1, .string x.f2] := by
  obtain ⟨_, _, rfl, rfl, ⟨_, _, rfl, rfl, rfl⟩⟩ := h
  exact rfl
structure S49 where
  f0 : (Int)
  f1 : (ByteArray)
def k49 : Kd S49 := Kd.iso (Kd.pair (Kd.int .i64) Kd.string) (fun x : S49 => (x.f0, x.f1))
theorem k49_open {w : World} {x : S49} {cs : List Value} (h : k49.K w x cs) : cs = [.int .i64 x.f0, .string x.f1] := by
  obtain ⟨_, _, rfl, rfl, rfl⟩ := h
  exact rfl
end Go.Proofs.YtckdocofmffheaaDoor.Q
namespace Go.Proofs.YtckdocofmffheaaDoor.Pv
def g38 (x : Q.S38) : Prop := gS x.f0 ∧ (gI .i64) x.f1 ∧ gS x.f2
theorem open38 : Opens Tryd.prog 38 Q.k38 g38 := by
  have h := opens_struct Tryd.underlying38 (by kernel_rfl) (opensF_cons rfl (by kernel_rfl) (opens_string Tryd.underlying9) (opensF_cons rfl (by kernel_rfl) (opens_int Tryd.underlying3) (opensF_one rfl (by kernel_rfl) (opens_string Tryd.underlying9))))
  exact opens_iso (f := fun x : Q.S38 => (x.f0, x.f1, x.f2)) (fun p => ⟨p.1, p.2.1, p.2.2⟩) (fun _ => rfl) h
def g49 (x : Q.S49) : Prop := (gI .i64) x.f0 ∧ gS x.f1
theorem open49 : Opens Tryd.prog 49 Q.k49 g49 := by
  have h := opens_struct Tryd.underlying49 (by kernel_rfl) (opensF_cons rfl (by kernel_rfl) (opens_int Tryd.underlying3) (opensF_one rfl (by kernel_rfl) (opens_string Tryd.underlying9)))
  exact opens_iso (f := fun x : Q.S49 => (x.f0, x.f1)) (fun p => ⟨p.1, p.2⟩) (fun _ => rfl) h
end Go.Proofs.YtckdocofmffheaaDoor.Pv
