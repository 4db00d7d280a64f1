/- The tied card of FnExactBroken: what it lists is tied to the program's text (by the given tie); the row is proved beside it. (Printed by wip/tools/rowx.py of this claim's workshop.) -/
import Derived.Test.YtckdocofmffheaaDoorLawFnExactBroken
import Derived.Test.YtckdocofmffheaaDoorTie
import Derived.Test.YtckdocofmffheaaDoorCards
import Derived.SevenTiedAt
namespace Go.Proofs.YtckdocofmffheaaDoor
open Go
theorem fnExactBroken_card : Rows.FnExactBrokenCardSaid :=
  Claim7.holds_tied_plain_at .later [] [.data, .pinned] true (true, "ebbc2da3c77bd26703e435f1a76049bc841c855a3b152c67017fb20f5d89b952") false
    fnExactBroken_holds (fun _ h => by cases h) (by kernel_rfl) (fun _ h => by cases h) fnExactBroken_row_tie rfl ⟨rfl, rfl⟩ (by kernel_rfl) rfl
    (fun f fn hf hfn => by
      obtain rfl : f = 9 := Option.some.inj ((show Tryd.prog.funcNamed "loop.example/g00963/laws.FnExactBroken" = some 9 by kernel_rfl).symm.trans hf) |>.symm
      obtain rfl : fn = Tryd.f9 := (Option.some.inj (Tryd.func9.symm.trans hfn)).symm
      exact ⟨by kernel_rfl, fun j t ht => by
        rw [Tryd.params9] at ht
        have hm : t ∈ [54, 9, 55] := by simpa using Array.mem_of_getElem? ht
        have hall : ([54, 9, 55].all fun u => !Tryd.prog.wantsStandIn u) = true := by kernel_rfl
        exact (show Tryd.prog.wantsStandIn t = false by simpa using List.all_eq_true.1 hall t hm)⟩)
    (by kernel_rfl)
#print axioms fnExactBroken_card
end Go.Proofs.YtckdocofmffheaaDoor
