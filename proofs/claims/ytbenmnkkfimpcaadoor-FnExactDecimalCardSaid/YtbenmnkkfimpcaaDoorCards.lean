/-
  DERIVED. GIVEN WITH THE SEED: THE CARDS: each row of YtbenmnkkfimpcaaDoorRows.lean that lists a variable, with what it lists TIED to the program's text (the seventh form; the later family's looks); each row that meets fmt, with fmt's text TOLD by the authors' own Lean function (tested against real Go, not proved from fmt's source: count such statements apart). THE CARD IS WHAT COUNTS. Prove the row's statement (the work); the ties are given (YtbenmnkkfimpcaaDoorTie.lean); close each card by the builder's one call (the guide's Derived/Test/ToyasCard.lean, 'card_holds'). Laid BY PROGRAM, IN A SANDBOX (cutbox-door.mjs). By AI agents, Wed Nov 11 2026. No macro, syntax, notation, axiom, sorry.
-/
import Derived.Test.YtbenmnkkfimpcaaDoorRows
import GoSem.ClaimSeven
namespace Go.Proofs.YtbenmnkkfimpcaaDoor
namespace Rows

/-- THE TIED CARD OF 'laws.FnExactDecimal'. -/
def fnExactDecimalCard : Claim7 := { stood := { row := fnExactDecimalRow, standIns := [], harness := (true, "06e50308628c3662332e092a5686477acc146f15f1edf47b8618d52fb5f487bf"), looks := true }, kinds := [], alts := [], laidByText := true, laidKinds := [.data, .data, .data], laidTests := true, laidLooks := .later }
def FnExactDecimalCardSaid : Prop := Claim7.holds Tryd.pinned (.plain (OpenSpec.ofChange fnExactDecimalSpec)) fnExactDecimalCard

/-- THE TIED CARD OF 'laws.FnExactReadDecimal'. -/
def fnExactReadDecimalCard : Claim7 := { stood := { row := fnExactReadDecimalRow, standIns := [], harness := (true, "06e50308628c3662332e092a5686477acc146f15f1edf47b8618d52fb5f487bf"), looks := true }, kinds := [], alts := [], laidByText := true, laidKinds := [.data, .data, .data, .sentinel, .sentinel], laidTests := true, laidLooks := .later }
def FnExactReadDecimalCardSaid : Prop := Claim7.holds Tryd.pinned (.plain (OpenSpec.ofChange fnExactReadDecimalSpec)) fnExactReadDecimalCard

/-- THE TIED CARD OF 'laws.FnExactPartsOf'. -/
def fnExactPartsOfCard : Claim7 := { stood := { row := fnExactPartsOfRow, standIns := [], harness := (true, "06e50308628c3662332e092a5686477acc146f15f1edf47b8618d52fb5f487bf"), looks := true }, kinds := [], alts := [], laidByText := true, laidKinds := [.listed, .data], laidTests := true, laidLooks := .later }
def FnExactPartsOfCardSaid : Prop := Claim7.holds Tryd.pinned (.plain (OpenSpec.ofChange fnExactPartsOfSpec)) fnExactPartsOfCard

/-- THE TIED CARD OF 'laws.FnFigures'. -/
def fnFiguresCard : Claim7 := { stood := { row := fnFiguresRow, standIns := [], harness := (true, "06e50308628c3662332e092a5686477acc146f15f1edf47b8618d52fb5f487bf"), looks := true }, kinds := [], alts := [], laidByText := true, laidKinds := [.data, .data, .data, .sentinel, .sentinel], laidTests := true, laidLooks := .later }
def FnFiguresCardSaid : Prop := Claim7.holds Tryd.pinned (.plain (OpenSpec.ofChange fnFiguresSpec)) fnFiguresCard

/-- THE TIED CARD OF 'laws.FnExactVarText'. -/
def fnExactVarTextCard : Claim7 := { stood := { row := fnExactVarTextRow, standIns := [], harness := (true, "06e50308628c3662332e092a5686477acc146f15f1edf47b8618d52fb5f487bf"), looks := true }, kinds := [], alts := [], laidByText := true, laidKinds := [.data, .data, .data], laidTests := true, laidLooks := .later }
def FnExactVarTextCardSaid : Prop := Claim7.holds Tryd.pinned (.plain (OpenSpec.ofChange fnExactVarTextSpec)) fnExactVarTextCard

/-- THE SECOND FORM's CARD OF 'laws.FnExactDecimal'. -/
def fnExactDecimalUptoCard : Claim7 := { stood := { row := fnExactDecimalUptoRow, standIns := [], harness := (true, "06e50308628c3662332e092a5686477acc146f15f1edf47b8618d52fb5f487bf"), looks := true }, kinds := [], alts := [], laidByText := true, laidKinds := [.data, .data, .data], laidTests := true, laidLooks := .later }
def FnExactDecimalUptoCardSaid : Prop := Claim7.holds Tryd.pinned (.plain (OpenSpec.upto fnExactDecimalSpec)) fnExactDecimalUptoCard

/-- THE SECOND FORM's CARD OF 'laws.FnExactReadDecimal'. -/
def fnExactReadDecimalUptoCard : Claim7 := { stood := { row := fnExactReadDecimalUptoRow, standIns := [], harness := (true, "06e50308628c3662332e092a5686477acc146f15f1edf47b8618d52fb5f487bf"), looks := true }, kinds := [], alts := [], laidByText := true, laidKinds := [.data, .data, .data, .sentinel, .sentinel], laidTests := true, laidLooks := .later }
def FnExactReadDecimalUptoCardSaid : Prop := Claim7.holds Tryd.pinned (.plain (OpenSpec.upto fnExactReadDecimalSpec)) fnExactReadDecimalUptoCard

/-- THE SECOND FORM's CARD OF 'laws.FnExactPartsOf'. -/
def fnExactPartsOfUptoCard : Claim7 := { stood := { row := fnExactPartsOfUptoRow, standIns := [], harness := (true, "06e50308628c3662332e092a5686477acc146f15f1edf47b8618d52fb5f487bf"), looks := true }, kinds := [], alts := [], laidByText := true, laidKinds := [.listed, .data], laidTests := true, laidLooks := .later }
def FnExactPartsOfUptoCardSaid : Prop := Claim7.holds Tryd.pinned (.plain (OpenSpec.upto fnExactPartsOfSpec)) fnExactPartsOfUptoCard

/-- THE SECOND FORM's CARD OF 'laws.FnFigures'. -/
def fnFiguresUptoCard : Claim7 := { stood := { row := fnFiguresUptoRow, standIns := [], harness := (true, "06e50308628c3662332e092a5686477acc146f15f1edf47b8618d52fb5f487bf"), looks := true }, kinds := [], alts := [], laidByText := true, laidKinds := [.data, .data, .data, .sentinel, .sentinel], laidTests := true, laidLooks := .later }
def FnFiguresUptoCardSaid : Prop := Claim7.holds Tryd.pinned (.plain (OpenSpec.upto fnFiguresSpec)) fnFiguresUptoCard

/-- THE SECOND FORM's CARD OF 'laws.FnExactVarText'. -/
def fnExactVarTextUptoCard : Claim7 := { stood := { row := fnExactVarTextUptoRow, standIns := [], harness := (true, "06e50308628c3662332e092a5686477acc146f15f1edf47b8618d52fb5f487bf"), looks := true }, kinds := [], alts := [], laidByText := true, laidKinds := [.data, .data, .data], laidTests := true, laidLooks := .later }
def FnExactVarTextUptoCardSaid : Prop := Claim7.holds Tryd.pinned (.plain (OpenSpec.upto fnExactVarTextSpec)) fnExactVarTextUptoCard
end Rows
end Go.Proofs.YtbenmnkkfimpcaaDoor
