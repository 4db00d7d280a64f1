/- The tied card of FnExactDecimal: what it lists is tied to the program's text (by the given tie); the row is proved beside it. (Printed by wip/tools/rowx.py of this claim's workshop.) -/
import Derived.Test.YtbenmnkkfimpcaaDoorLawFnExactDecimal
import Derived.Test.YtbenmnkkfimpcaaDoorTie
import Derived.Test.YtbenmnkkfimpcaaDoorCards
import Derived.SevenTiedAt
namespace Go.Proofs.YtbenmnkkfimpcaaDoor
open Go
theorem fnExactDecimal_card : Rows.FnExactDecimalCardSaid :=
  Claim7.holds_tied_plain_at .later [] [.data, .data, .data] true (true, "06e50308628c3662332e092a5686477acc146f15f1edf47b8618d52fb5f487bf") true
    fnExactDecimal_holds (fun _ h => by cases h) (by kernel_rfl) (fun _ h => by cases h) fnExactDecimal_row_tie rfl ⟨rfl, rfl⟩ (by kernel_rfl) rfl
    (fun f fn hf hfn => by
      obtain rfl : f = 3 := Option.some.inj ((show Tryd.prog.funcNamed "loop.example/g00963/laws.FnExactDecimal" = some 3 by kernel_rfl).symm.trans hf) |>.symm
      obtain rfl : fn = Tryd.f3 := (Option.some.inj (Tryd.func3.symm.trans hfn)).symm
      exact ⟨by kernel_rfl, fun j t ht => by
        rw [Tryd.params3] at ht
        have hm : t ∈ [3] := by simpa using Array.mem_of_getElem? ht
        have hall : ([3].all fun u => !Tryd.prog.wantsStandIn u) = true := by kernel_rfl
        exact (show Tryd.prog.wantsStandIn t = false by simpa using List.all_eq_true.1 hall t hm)⟩)
    (by kernel_rfl)
#print axioms fnExactDecimal_card
end Go.Proofs.YtbenmnkkfimpcaaDoor
