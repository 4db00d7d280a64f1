/- The shelf's functions at this program's own numbers (laid by the kit's lay-shelf.mjs and lay-plain.mjs). No condition. -/
import Derived.Shelf.Lays
import Derived.Shelf.SlicesQ.Contains
import Derived.Shelf.SlicesQ.IndexFunc
import Derived.KernelRfl
import Derived.Test.YtckdocofmffheaaProg
namespace Go.Proofs
open Go.Shelf
def Try.laysSlgf8_f18_ren : Go.Shelf.Ren := ⟨fun | 8 => 18 | 6 => 27 | n => n, fun | 22 => 25 | 23 => 35 | 25 => 39 | 4 => 4 | 3 => 3 | 0 => 0 | n => n, fun | n => n⟩
theorem Try.laysSlgf8_f18 : Go.Proofs.SlLaysH0.n8 Try.prog Try.laysSlgf8_f18_ren := {
  mixed := by kernel_rfl
  f6 := ⟨Try.f27.name, by decide, Try.func27.trans (congrArg some (by kernel_rfl))⟩
  f8 := ⟨Try.f18.name, by decide, Try.func18.trans (congrArg some (by kernel_rfl))⟩
  t0 := Try.underlying0
  a0 := Try.isAgg0
  z0 := Try.sizeOf0
  v0 := Try.zeroValue0
  t3 := Try.underlying3
  a3 := Try.isAgg3
  z3 := Try.sizeOf3
  v3 := Try.zeroValue3
  t4 := Try.underlying4
  a4 := Try.isAgg4
  z4 := Try.sizeOf4
  v4 := Try.zeroValue4
  t22 := Try.underlying25
  a22 := Try.isAgg25
  z22 := Try.sizeOf25
  v22 := Try.zeroValue25
  t25 := Try.underlying39
  a25 := Try.isAgg39
  z25 := Try.sizeOf39
  v25 := Try.zeroValue39 }
end Go.Proofs
