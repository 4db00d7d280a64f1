/- The tied card of FnRules: what it lists is tied to the program's text (by the given tie); the row is proved beside it. (Printed by wip/tools/rowx.py of this claim's workshop.) -/
import Derived.Test.YtckdocofmffheaaDoorLawFnRules
import Derived.Test.YtckdocofmffheaaDoorTie
import Derived.Test.YtckdocofmffheaaDoorCards
import Derived.SevenTiedAt
namespace Go.Proofs.YtckdocofmffheaaDoor
open Go
theorem fnRules_card : Rows.FnRulesCardSaid :=
  Claim7.holds_tied_plain_at .later [] [.data, .pinned] true (true, "ebbc2da3c77bd26703e435f1a76049bc841c855a3b152c67017fb20f5d89b952") false
    fnRules_holds (fun _ h => by cases h) (by kernel_rfl) (fun _ h => by cases h) fnRules_row_tie rfl ⟨rfl, rfl⟩ (by kernel_rfl) rfl
    (fun f fn hf hfn => by
      obtain rfl : f = 10 := Option.some.inj ((show Tryd.prog.funcNamed "loop.example/g00963/laws.FnRules" = some 10 by kernel_rfl).symm.trans hf) |>.symm
      obtain rfl : fn = Tryd.f10 := (Option.some.inj (Tryd.func10.symm.trans hfn)).symm
      exact ⟨by kernel_rfl, fun j t ht => by
        rw [Tryd.params10] at ht
        have hm : t ∈ [22] := by simpa using Array.mem_of_getElem? ht
        have hall : ([22].all fun u => !Tryd.prog.wantsStandIn u) = true := by kernel_rfl
        exact (show Tryd.prog.wantsStandIn t = false by simpa using List.all_eq_true.1 hall t hm)⟩)
    (by kernel_rfl)
#print axioms fnRules_card
end Go.Proofs.YtckdocofmffheaaDoor
