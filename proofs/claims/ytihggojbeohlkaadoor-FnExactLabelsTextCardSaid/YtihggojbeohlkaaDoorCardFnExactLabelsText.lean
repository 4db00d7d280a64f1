/- The tied card of FnExactLabelsText: what it lists is tied to the program's text (by the given tie); the row is proved beside it. (Printed by wip/tools/rowx.py of this claim's workshop.) -/
import Derived.Test.YtihggojbeohlkaaDoorLawFnExactLabelsText
import Derived.Test.YtihggojbeohlkaaDoorTie
import Derived.Test.YtihggojbeohlkaaDoorCards
import Derived.SevenTiedAt
namespace Go.Proofs.YtihggojbeohlkaaDoor
open Go
theorem fnExactLabelsText_card : Rows.FnExactLabelsTextCardSaid :=
  Claim7.holds_tied_plain_at .later [] [.data, .pinned] true (true, "5ba78a5e71decfcb28fdcb79435f400b9d7978071ba369ac78fca72a5d4ca9dd") false
    fnExactLabelsText_holds (fun _ h => by cases h) (by kernel_rfl) (fun _ h => by cases h) fnExactLabelsText_row_tie rfl ⟨rfl, rfl⟩ (by kernel_rfl) rfl
    (fun f fn hf hfn => by
      obtain rfl : f = 13 := Option.some.inj ((show Tryd.prog.funcNamed "loop.example/g00963/laws.FnExactLabelsText" = some 13 by kernel_rfl).symm.trans hf) |>.symm
      obtain rfl : fn = Tryd.f13 := (Option.some.inj (Tryd.func13.symm.trans hfn)).symm
      exact ⟨by kernel_rfl, fun j t ht => by
        rw [Tryd.params13] at ht
        have hm : t ∈ [48] := by simpa using Array.mem_of_getElem? ht
        have hall : ([48].all fun u => !Tryd.prog.wantsStandIn u) = true := by kernel_rfl
        exact (show Tryd.prog.wantsStandIn t = false by simpa using List.all_eq_true.1 hall t hm)⟩)
    (by kernel_rfl)
#print axioms fnExactLabelsText_card
end Go.Proofs.YtihggojbeohlkaaDoor
