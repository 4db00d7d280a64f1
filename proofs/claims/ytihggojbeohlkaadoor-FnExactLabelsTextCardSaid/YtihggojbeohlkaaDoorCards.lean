/-
  DERIVED. GIVEN WITH THE SEED: THE CARDS: each row of YtihggojbeohlkaaDoorRows.lean that lists a variable, with what it lists TIED to the program's text (the seventh form; the later family's looks); each row that meets fmt, with fmt's text TOLD by the authors' own Lean function (tested against real Go, not proved from fmt's source: count such statements apart). THE CARD IS WHAT COUNTS. Prove the row's statement (the work); the ties are given (YtihggojbeohlkaaDoorTie.lean); close each card by the builder's one call (the guide's Derived/Test/ToyasCard.lean, 'card_holds'). Laid BY PROGRAM, IN A SANDBOX (cutbox-door.mjs). By AI agents, Wed Nov 11 2026. No macro, syntax, notation, axiom, sorry.
-/
import Derived.Test.YtihggojbeohlkaaDoorRows
import GoSem.ClaimSeven
namespace Go.Proofs.YtihggojbeohlkaaDoor
namespace Rows

/-- THE TIED CARD OF 'laws.FnExactNameOk'. -/
def fnExactNameOkCard : Claim7 := { stood := { row := fnExactNameOkRow, standIns := [], harness := (true, "5ba78a5e71decfcb28fdcb79435f400b9d7978071ba369ac78fca72a5d4ca9dd"), looks := false }, kinds := [], alts := [], laidByText := true, laidKinds := [.data, .pinned], laidTests := true, laidLooks := .later }
def FnExactNameOkCardSaid : Prop := Claim7.holds Tryd.pinned (.plain (OpenSpec.ofChange fnExactNameOkSpec)) fnExactNameOkCard

/-- THE TIED CARD OF 'laws.FnExactNameAdd'. -/
def fnExactNameAddCard : Claim7 := { stood := { row := fnExactNameAddRow, standIns := [], harness := (true, "5ba78a5e71decfcb28fdcb79435f400b9d7978071ba369ac78fca72a5d4ca9dd"), looks := false }, kinds := [], alts := [], laidByText := true, laidKinds := [.data, .pinned], laidTests := true, laidLooks := .later }
def FnExactNameAddCardSaid : Prop := Claim7.holds Tryd.pinned (.plain (OpenSpec.ofChange fnExactNameAddSpec)) fnExactNameAddCard

/-- THE TIED CARD OF 'laws.FnExactUnder'. -/
def fnExactUnderCard : Claim7 := { stood := { row := fnExactUnderRow, standIns := [], harness := (true, "5ba78a5e71decfcb28fdcb79435f400b9d7978071ba369ac78fca72a5d4ca9dd"), looks := false }, kinds := [], alts := [], laidByText := true, laidKinds := [.data, .pinned], laidTests := true, laidLooks := .later }
def FnExactUnderCardSaid : Prop := Claim7.holds Tryd.pinned (.plain (OpenSpec.ofChange fnExactUnderSpec)) fnExactUnderCard

/-- THE TIED CARD OF 'laws.FnExactNameParts'. -/
def fnExactNamePartsCard : Claim7 := { stood := { row := fnExactNamePartsRow, standIns := [], harness := (true, "5ba78a5e71decfcb28fdcb79435f400b9d7978071ba369ac78fca72a5d4ca9dd"), looks := false }, kinds := [], alts := [], laidByText := true, laidKinds := [.data, .pinned], laidTests := true, laidLooks := .later }
def FnExactNamePartsCardSaid : Prop := Claim7.holds Tryd.pinned (.plain (OpenSpec.ofChange fnExactNamePartsSpec)) fnExactNamePartsCard

/-- THE TIED CARD OF 'laws.FnExactNamesOk'. -/
def fnExactNamesOkCard : Claim7 := { stood := { row := fnExactNamesOkRow, standIns := [], harness := (true, "5ba78a5e71decfcb28fdcb79435f400b9d7978071ba369ac78fca72a5d4ca9dd"), looks := false }, kinds := [], alts := [], laidByText := true, laidKinds := [.data, .pinned], laidTests := true, laidLooks := .later }
def FnExactNamesOkCardSaid : Prop := Claim7.holds Tryd.pinned (.plain (OpenSpec.ofChange fnExactNamesOkSpec)) fnExactNamesOkCard

/-- THE TIED CARD OF 'laws.FnNames'. -/
def fnNamesCard : Claim7 := { stood := { row := fnNamesRow, standIns := [], harness := (true, "5ba78a5e71decfcb28fdcb79435f400b9d7978071ba369ac78fca72a5d4ca9dd"), looks := false }, kinds := [], alts := [], laidByText := true, laidKinds := [.data, .pinned], laidTests := true, laidLooks := .later }
def FnNamesCardSaid : Prop := Claim7.holds Tryd.pinned (.plain (OpenSpec.ofChange fnNamesSpec)) fnNamesCard

/-- THE TIED CARD OF 'laws.FnExactLabelOk'. -/
def fnExactLabelOkCard : Claim7 := { stood := { row := fnExactLabelOkRow, standIns := [], harness := (true, "5ba78a5e71decfcb28fdcb79435f400b9d7978071ba369ac78fca72a5d4ca9dd"), looks := false }, kinds := [], alts := [], laidByText := true, laidKinds := [.data, .pinned], laidTests := true, laidLooks := .later }
def FnExactLabelOkCardSaid : Prop := Claim7.holds Tryd.pinned (.plain (OpenSpec.ofChange fnExactLabelOkSpec)) fnExactLabelOkCard

/-- THE TIED CARD OF 'laws.FnExactLabelText'. -/
def fnExactLabelTextCard : Claim7 := { stood := { row := fnExactLabelTextRow, standIns := [], harness := (true, "5ba78a5e71decfcb28fdcb79435f400b9d7978071ba369ac78fca72a5d4ca9dd"), looks := false }, kinds := [], alts := [], laidByText := true, laidKinds := [.data, .pinned], laidTests := true, laidLooks := .later }
def FnExactLabelTextCardSaid : Prop := Claim7.holds Tryd.pinned (.plain (OpenSpec.ofChange fnExactLabelTextSpec)) fnExactLabelTextCard

/-- THE TIED CARD OF 'laws.FnExactReadLabel'. -/
def fnExactReadLabelCard : Claim7 := { stood := { row := fnExactReadLabelRow, standIns := [], harness := (true, "5ba78a5e71decfcb28fdcb79435f400b9d7978071ba369ac78fca72a5d4ca9dd"), looks := false }, kinds := [], alts := [], laidByText := true, laidKinds := [.data, .pinned], laidTests := true, laidLooks := .later }
def FnExactReadLabelCardSaid : Prop := Claim7.holds Tryd.pinned (.plain (OpenSpec.ofChange fnExactReadLabelSpec)) fnExactReadLabelCard

/-- THE TIED CARD OF 'laws.FnExactLabelsOk'. -/
def fnExactLabelsOkCard : Claim7 := { stood := { row := fnExactLabelsOkRow, standIns := [], harness := (true, "5ba78a5e71decfcb28fdcb79435f400b9d7978071ba369ac78fca72a5d4ca9dd"), looks := false }, kinds := [], alts := [], laidByText := true, laidKinds := [.data, .pinned], laidTests := true, laidLooks := .later }
def FnExactLabelsOkCardSaid : Prop := Claim7.holds Tryd.pinned (.plain (OpenSpec.ofChange fnExactLabelsOkSpec)) fnExactLabelsOkCard

/-- THE TIED CARD OF 'laws.FnExactLabelsText'. -/
def fnExactLabelsTextCard : Claim7 := { stood := { row := fnExactLabelsTextRow, standIns := [], harness := (true, "5ba78a5e71decfcb28fdcb79435f400b9d7978071ba369ac78fca72a5d4ca9dd"), looks := false }, kinds := [], alts := [], laidByText := true, laidKinds := [.data, .pinned], laidTests := true, laidLooks := .later }
def FnExactLabelsTextCardSaid : Prop := Claim7.holds Tryd.pinned (.plain (OpenSpec.ofChange fnExactLabelsTextSpec)) fnExactLabelsTextCard

/-- THE SECOND FORM's CARD OF 'laws.FnExactNameOk'. -/
def fnExactNameOkUptoCard : Claim7 := { stood := { row := fnExactNameOkUptoRow, standIns := [], harness := (true, "5ba78a5e71decfcb28fdcb79435f400b9d7978071ba369ac78fca72a5d4ca9dd"), looks := false }, kinds := [], alts := [], laidByText := true, laidKinds := [.data, .pinned], laidTests := true, laidLooks := .later }
def FnExactNameOkUptoCardSaid : Prop := Claim7.holds Tryd.pinned (.plain (OpenSpec.upto fnExactNameOkSpec)) fnExactNameOkUptoCard

/-- THE SECOND FORM's CARD OF 'laws.FnExactNameAdd'. -/
def fnExactNameAddUptoCard : Claim7 := { stood := { row := fnExactNameAddUptoRow, standIns := [], harness := (true, "5ba78a5e71decfcb28fdcb79435f400b9d7978071ba369ac78fca72a5d4ca9dd"), looks := false }, kinds := [], alts := [], laidByText := true, laidKinds := [.data, .pinned], laidTests := true, laidLooks := .later }
def FnExactNameAddUptoCardSaid : Prop := Claim7.holds Tryd.pinned (.plain (OpenSpec.upto fnExactNameAddSpec)) fnExactNameAddUptoCard

/-- THE SECOND FORM's CARD OF 'laws.FnExactUnder'. -/
def fnExactUnderUptoCard : Claim7 := { stood := { row := fnExactUnderUptoRow, standIns := [], harness := (true, "5ba78a5e71decfcb28fdcb79435f400b9d7978071ba369ac78fca72a5d4ca9dd"), looks := false }, kinds := [], alts := [], laidByText := true, laidKinds := [.data, .pinned], laidTests := true, laidLooks := .later }
def FnExactUnderUptoCardSaid : Prop := Claim7.holds Tryd.pinned (.plain (OpenSpec.upto fnExactUnderSpec)) fnExactUnderUptoCard

/-- THE SECOND FORM's CARD OF 'laws.FnExactNameParts'. -/
def fnExactNamePartsUptoCard : Claim7 := { stood := { row := fnExactNamePartsUptoRow, standIns := [], harness := (true, "5ba78a5e71decfcb28fdcb79435f400b9d7978071ba369ac78fca72a5d4ca9dd"), looks := false }, kinds := [], alts := [], laidByText := true, laidKinds := [.data, .pinned], laidTests := true, laidLooks := .later }
def FnExactNamePartsUptoCardSaid : Prop := Claim7.holds Tryd.pinned (.plain (OpenSpec.upto fnExactNamePartsSpec)) fnExactNamePartsUptoCard

/-- THE SECOND FORM's CARD OF 'laws.FnExactNamesOk'. -/
def fnExactNamesOkUptoCard : Claim7 := { stood := { row := fnExactNamesOkUptoRow, standIns := [], harness := (true, "5ba78a5e71decfcb28fdcb79435f400b9d7978071ba369ac78fca72a5d4ca9dd"), looks := false }, kinds := [], alts := [], laidByText := true, laidKinds := [.data, .pinned], laidTests := true, laidLooks := .later }
def FnExactNamesOkUptoCardSaid : Prop := Claim7.holds Tryd.pinned (.plain (OpenSpec.upto fnExactNamesOkSpec)) fnExactNamesOkUptoCard

/-- THE SECOND FORM's CARD OF 'laws.FnNames'. -/
def fnNamesUptoCard : Claim7 := { stood := { row := fnNamesUptoRow, standIns := [], harness := (true, "5ba78a5e71decfcb28fdcb79435f400b9d7978071ba369ac78fca72a5d4ca9dd"), looks := false }, kinds := [], alts := [], laidByText := true, laidKinds := [.data, .pinned], laidTests := true, laidLooks := .later }
def FnNamesUptoCardSaid : Prop := Claim7.holds Tryd.pinned (.plain (OpenSpec.upto fnNamesSpec)) fnNamesUptoCard

/-- THE SECOND FORM's CARD OF 'laws.FnExactLabelOk'. -/
def fnExactLabelOkUptoCard : Claim7 := { stood := { row := fnExactLabelOkUptoRow, standIns := [], harness := (true, "5ba78a5e71decfcb28fdcb79435f400b9d7978071ba369ac78fca72a5d4ca9dd"), looks := false }, kinds := [], alts := [], laidByText := true, laidKinds := [.data, .pinned], laidTests := true, laidLooks := .later }
def FnExactLabelOkUptoCardSaid : Prop := Claim7.holds Tryd.pinned (.plain (OpenSpec.upto fnExactLabelOkSpec)) fnExactLabelOkUptoCard

/-- THE SECOND FORM's CARD OF 'laws.FnExactLabelText'. -/
def fnExactLabelTextUptoCard : Claim7 := { stood := { row := fnExactLabelTextUptoRow, standIns := [], harness := (true, "5ba78a5e71decfcb28fdcb79435f400b9d7978071ba369ac78fca72a5d4ca9dd"), looks := false }, kinds := [], alts := [], laidByText := true, laidKinds := [.data, .pinned], laidTests := true, laidLooks := .later }
def FnExactLabelTextUptoCardSaid : Prop := Claim7.holds Tryd.pinned (.plain (OpenSpec.upto fnExactLabelTextSpec)) fnExactLabelTextUptoCard

/-- THE SECOND FORM's CARD OF 'laws.FnExactReadLabel'. -/
def fnExactReadLabelUptoCard : Claim7 := { stood := { row := fnExactReadLabelUptoRow, standIns := [], harness := (true, "5ba78a5e71decfcb28fdcb79435f400b9d7978071ba369ac78fca72a5d4ca9dd"), looks := false }, kinds := [], alts := [], laidByText := true, laidKinds := [.data, .pinned], laidTests := true, laidLooks := .later }
def FnExactReadLabelUptoCardSaid : Prop := Claim7.holds Tryd.pinned (.plain (OpenSpec.upto fnExactReadLabelSpec)) fnExactReadLabelUptoCard

/-- THE SECOND FORM's CARD OF 'laws.FnExactLabelsOk'. -/
def fnExactLabelsOkUptoCard : Claim7 := { stood := { row := fnExactLabelsOkUptoRow, standIns := [], harness := (true, "5ba78a5e71decfcb28fdcb79435f400b9d7978071ba369ac78fca72a5d4ca9dd"), looks := false }, kinds := [], alts := [], laidByText := true, laidKinds := [.data, .pinned], laidTests := true, laidLooks := .later }
def FnExactLabelsOkUptoCardSaid : Prop := Claim7.holds Tryd.pinned (.plain (OpenSpec.upto fnExactLabelsOkSpec)) fnExactLabelsOkUptoCard

/-- THE SECOND FORM's CARD OF 'laws.FnExactLabelsText'. -/
def fnExactLabelsTextUptoCard : Claim7 := { stood := { row := fnExactLabelsTextUptoRow, standIns := [], harness := (true, "5ba78a5e71decfcb28fdcb79435f400b9d7978071ba369ac78fca72a5d4ca9dd"), looks := false }, kinds := [], alts := [], laidByText := true, laidKinds := [.data, .pinned], laidTests := true, laidLooks := .later }
def FnExactLabelsTextUptoCardSaid : Prop := Claim7.holds Tryd.pinned (.plain (OpenSpec.upto fnExactLabelsTextSpec)) fnExactLabelsTextUptoCard
end Rows
end Go.Proofs.YtihggojbeohlkaaDoor
