/-
  DERIVED. GIVEN WITH THE SEED: THE CARDS: each row of YtckdocofmffheaaDoorRows.lean that lists a variable, with what it lists TIED to the program's text (the seventh form; the later family's looks); each row that meets fmt, with fmt's text TOLD by the authors' own Lean function (tested against real Go, not proved from fmt's source: count such statements apart). THE CARD IS WHAT COUNTS. Prove the row's statement (the work); the ties are given (YtckdocofmffheaaDoorTie.lean); close each card by the builder's one call (the guide's Derived/Test/ToyasCard.lean, 'card_holds'). Laid BY PROGRAM, IN A SANDBOX (cutbox-door.mjs). By AI agents, Wed Nov 11 2026. No macro, syntax, notation, axiom, sorry.
-/
import Derived.Test.YtckdocofmffheaaDoorRows
import GoSem.ClaimSeven
namespace Go.Proofs.YtckdocofmffheaaDoor
namespace Rows

/-- THE TIED CARD OF 'laws.FnLabels'. -/
def fnLabelsCard : Claim7 := { stood := { row := fnLabelsRow, standIns := [], harness := (true, "ebbc2da3c77bd26703e435f1a76049bc841c855a3b152c67017fb20f5d89b952"), looks := false }, kinds := [], alts := [], laidByText := true, laidKinds := [.data, .pinned], laidTests := true, laidLooks := .later }
def FnLabelsCardSaid : Prop := Claim7.holds Tryd.pinned (.plain (OpenSpec.ofChange fnLabelsSpec)) fnLabelsCard

/-- THE TIED CARD OF 'laws.FnExactRuleOk'. -/
def fnExactRuleOkCard : Claim7 := { stood := { row := fnExactRuleOkRow, standIns := [], harness := (true, "ebbc2da3c77bd26703e435f1a76049bc841c855a3b152c67017fb20f5d89b952"), looks := false }, kinds := [], alts := [], laidByText := true, laidKinds := [.data, .pinned], laidTests := true, laidLooks := .later }
def FnExactRuleOkCardSaid : Prop := Claim7.holds Tryd.pinned (.plain (OpenSpec.ofChange fnExactRuleOkSpec)) fnExactRuleOkCard

/-- THE TIED CARD OF 'laws.FnExactRuleLine'. -/
def fnExactRuleLineCard : Claim7 := { stood := { row := fnExactRuleLineRow, standIns := [], harness := (true, "ebbc2da3c77bd26703e435f1a76049bc841c855a3b152c67017fb20f5d89b952"), looks := false }, kinds := [], alts := [], laidByText := true, laidKinds := [.data, .pinned], laidTests := true, laidLooks := .later }
def FnExactRuleLineCardSaid : Prop := Claim7.holds Tryd.pinned (.plain (OpenSpec.ofChange fnExactRuleLineSpec)) fnExactRuleLineCard

/-- THE TIED CARD OF 'laws.FnExactReadRule'. -/
def fnExactReadRuleCard : Claim7 := { stood := { row := fnExactReadRuleRow, standIns := [], harness := (true, "ebbc2da3c77bd26703e435f1a76049bc841c855a3b152c67017fb20f5d89b952"), looks := false }, kinds := [], alts := [], laidByText := true, laidKinds := [.data, .pinned], laidTests := true, laidLooks := .later }
def FnExactReadRuleCardSaid : Prop := Claim7.holds Tryd.pinned (.plain (OpenSpec.ofChange fnExactReadRuleSpec)) fnExactReadRuleCard

/-- THE TIED CARD OF 'laws.FnExactForbids'. -/
def fnExactForbidsCard : Claim7 := { stood := { row := fnExactForbidsRow, standIns := [], harness := (true, "ebbc2da3c77bd26703e435f1a76049bc841c855a3b152c67017fb20f5d89b952"), looks := false }, kinds := [], alts := [], laidByText := true, laidKinds := [.data, .pinned], laidTests := true, laidLooks := .later }
def FnExactForbidsCardSaid : Prop := Claim7.holds Tryd.pinned (.plain (OpenSpec.ofChange fnExactForbidsSpec)) fnExactForbidsCard

/-- THE TIED CARD OF 'laws.FnExactAllowed'. -/
def fnExactAllowedCard : Claim7 := { stood := { row := fnExactAllowedRow, standIns := [], harness := (true, "ebbc2da3c77bd26703e435f1a76049bc841c855a3b152c67017fb20f5d89b952"), looks := false }, kinds := [], alts := [], laidByText := true, laidKinds := [.data, .pinned], laidTests := true, laidLooks := .later }
def FnExactAllowedCardSaid : Prop := Claim7.holds Tryd.pinned (.plain (OpenSpec.ofChange fnExactAllowedSpec)) fnExactAllowedCard

/-- THE TIED CARD OF 'laws.FnExactBroken'. -/
def fnExactBrokenCard : Claim7 := { stood := { row := fnExactBrokenRow, standIns := [], harness := (true, "ebbc2da3c77bd26703e435f1a76049bc841c855a3b152c67017fb20f5d89b952"), looks := false }, kinds := [], alts := [], laidByText := true, laidKinds := [.data, .pinned], laidTests := true, laidLooks := .later }
def FnExactBrokenCardSaid : Prop := Claim7.holds Tryd.pinned (.plain (OpenSpec.ofChange fnExactBrokenSpec)) fnExactBrokenCard

/-- THE TIED CARD OF 'laws.FnRules'. -/
def fnRulesCard : Claim7 := { stood := { row := fnRulesRow, standIns := [], harness := (true, "ebbc2da3c77bd26703e435f1a76049bc841c855a3b152c67017fb20f5d89b952"), looks := false }, kinds := [], alts := [], laidByText := true, laidKinds := [.data, .pinned], laidTests := true, laidLooks := .later }
def FnRulesCardSaid : Prop := Claim7.holds Tryd.pinned (.plain (OpenSpec.ofChange fnRulesSpec)) fnRulesCard

/-- THE TIED CARD OF 'laws.FnExactConstText'. -/
def fnExactConstTextCard : Claim7 := { stood := { row := fnExactConstTextRow, standIns := [], harness := (true, "ebbc2da3c77bd26703e435f1a76049bc841c855a3b152c67017fb20f5d89b952"), looks := false }, kinds := [], alts := [], laidByText := true, laidKinds := [.data, .data, .data, .data, .pinned], laidTests := true, laidLooks := .later }
def FnExactConstTextCardSaid : Prop := Claim7.holds Tryd.pinned (.plain (OpenSpec.ofChange fnExactConstTextSpec)) fnExactConstTextCard

/-- THE SECOND FORM's CARD OF 'laws.FnLabels'. -/
def fnLabelsUptoCard : Claim7 := { stood := { row := fnLabelsUptoRow, standIns := [], harness := (true, "ebbc2da3c77bd26703e435f1a76049bc841c855a3b152c67017fb20f5d89b952"), looks := false }, kinds := [], alts := [], laidByText := true, laidKinds := [.data, .pinned], laidTests := true, laidLooks := .later }
def FnLabelsUptoCardSaid : Prop := Claim7.holds Tryd.pinned (.plain (OpenSpec.upto fnLabelsSpec)) fnLabelsUptoCard

/-- THE SECOND FORM's CARD OF 'laws.FnExactRuleOk'. -/
def fnExactRuleOkUptoCard : Claim7 := { stood := { row := fnExactRuleOkUptoRow, standIns := [], harness := (true, "ebbc2da3c77bd26703e435f1a76049bc841c855a3b152c67017fb20f5d89b952"), looks := false }, kinds := [], alts := [], laidByText := true, laidKinds := [.data, .pinned], laidTests := true, laidLooks := .later }
def FnExactRuleOkUptoCardSaid : Prop := Claim7.holds Tryd.pinned (.plain (OpenSpec.upto fnExactRuleOkSpec)) fnExactRuleOkUptoCard

/-- THE SECOND FORM's CARD OF 'laws.FnExactRuleLine'. -/
def fnExactRuleLineUptoCard : Claim7 := { stood := { row := fnExactRuleLineUptoRow, standIns := [], harness := (true, "ebbc2da3c77bd26703e435f1a76049bc841c855a3b152c67017fb20f5d89b952"), looks := false }, kinds := [], alts := [], laidByText := true, laidKinds := [.data, .pinned], laidTests := true, laidLooks := .later }
def FnExactRuleLineUptoCardSaid : Prop := Claim7.holds Tryd.pinned (.plain (OpenSpec.upto fnExactRuleLineSpec)) fnExactRuleLineUptoCard

/-- THE SECOND FORM's CARD OF 'laws.FnExactReadRule'. -/
def fnExactReadRuleUptoCard : Claim7 := { stood := { row := fnExactReadRuleUptoRow, standIns := [], harness := (true, "ebbc2da3c77bd26703e435f1a76049bc841c855a3b152c67017fb20f5d89b952"), looks := false }, kinds := [], alts := [], laidByText := true, laidKinds := [.data, .pinned], laidTests := true, laidLooks := .later }
def FnExactReadRuleUptoCardSaid : Prop := Claim7.holds Tryd.pinned (.plain (OpenSpec.upto fnExactReadRuleSpec)) fnExactReadRuleUptoCard

/-- THE SECOND FORM's CARD OF 'laws.FnExactForbids'. -/
def fnExactForbidsUptoCard : Claim7 := { stood := { row := fnExactForbidsUptoRow, standIns := [], harness := (true, "ebbc2da3c77bd26703e435f1a76049bc841c855a3b152c67017fb20f5d89b952"), looks := false }, kinds := [], alts := [], laidByText := true, laidKinds := [.data, .pinned], laidTests := true, laidLooks := .later }
def FnExactForbidsUptoCardSaid : Prop := Claim7.holds Tryd.pinned (.plain (OpenSpec.upto fnExactForbidsSpec)) fnExactForbidsUptoCard

/-- THE SECOND FORM's CARD OF 'laws.FnExactAllowed'. -/
def fnExactAllowedUptoCard : Claim7 := { stood := { row := fnExactAllowedUptoRow, standIns := [], harness := (true, "ebbc2da3c77bd26703e435f1a76049bc841c855a3b152c67017fb20f5d89b952"), looks := false }, kinds := [], alts := [], laidByText := true, laidKinds := [.data, .pinned], laidTests := true, laidLooks := .later }
def FnExactAllowedUptoCardSaid : Prop := Claim7.holds Tryd.pinned (.plain (OpenSpec.upto fnExactAllowedSpec)) fnExactAllowedUptoCard

/-- THE SECOND FORM's CARD OF 'laws.FnExactBroken'. -/
def fnExactBrokenUptoCard : Claim7 := { stood := { row := fnExactBrokenUptoRow, standIns := [], harness := (true, "ebbc2da3c77bd26703e435f1a76049bc841c855a3b152c67017fb20f5d89b952"), looks := false }, kinds := [], alts := [], laidByText := true, laidKinds := [.data, .pinned], laidTests := true, laidLooks := .later }
def FnExactBrokenUptoCardSaid : Prop := Claim7.holds Tryd.pinned (.plain (OpenSpec.upto fnExactBrokenSpec)) fnExactBrokenUptoCard

/-- THE SECOND FORM's CARD OF 'laws.FnRules'. -/
def fnRulesUptoCard : Claim7 := { stood := { row := fnRulesUptoRow, standIns := [], harness := (true, "ebbc2da3c77bd26703e435f1a76049bc841c855a3b152c67017fb20f5d89b952"), looks := false }, kinds := [], alts := [], laidByText := true, laidKinds := [.data, .pinned], laidTests := true, laidLooks := .later }
def FnRulesUptoCardSaid : Prop := Claim7.holds Tryd.pinned (.plain (OpenSpec.upto fnRulesSpec)) fnRulesUptoCard

/-- THE SECOND FORM's CARD OF 'laws.FnExactConstText'. -/
def fnExactConstTextUptoCard : Claim7 := { stood := { row := fnExactConstTextUptoRow, standIns := [], harness := (true, "ebbc2da3c77bd26703e435f1a76049bc841c855a3b152c67017fb20f5d89b952"), looks := false }, kinds := [], alts := [], laidByText := true, laidKinds := [.data, .data, .data, .data, .pinned], laidTests := true, laidLooks := .later }
def FnExactConstTextUptoCardSaid : Prop := Claim7.holds Tryd.pinned (.plain (OpenSpec.upto fnExactConstTextSpec)) fnExactConstTextUptoCard
end Rows
end Go.Proofs.YtckdocofmffheaaDoor
