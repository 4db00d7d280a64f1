/-
  NARROWER THAN 'FOR EVERY INPUT', by the rows' own cells (each row's printed sentence says how): FnExactNameOk: laid · FnExactNameAdd: laid · FnExactUnder: laid · FnExactNameParts: laid · FnExactNamesOk: laid · FnNames: laid · FnExactLabelOk: laid · FnExactLabelText: laid · FnExactReadLabel: laid · FnExactLabelsOk: laid · FnExactLabelsText: laid.
  DERIVED. THE GIVEN ROWS OF THIS SEAT. 11 by the template 'for every input the law returns true; each argument reads behind the call as it read before'; 0 by the template 'total and deterministic' (their statements: YtihggojbeohlkaaDoorTotals.lean).
  GIVEN WITH THE SEED: the statements are not yours to turn. If you find one false, say at which input.
  Laid BY PROGRAM, IN A SANDBOX (cutbox-rows.mjs): the forced cells as the released guide's own fill.sh prints them over the translation 1d0999ee0f1eb427… (all of the seat's roots in one cut). By AI agents, Wed Nov 11 2026. No macro, syntax, notation, axiom, sorry.
-/
import Derived.Test.YtihggojbeohlkaaDoorChecked
import GoSem.PinnedTables
import GoSem.Claim
import GoSem.ClaimJoined
import GoSem.ClaimMapViews
import Derived.JoinedTies
import Derived.KernelRfl
namespace Go.Proofs.YtihggojbeohlkaaDoor
/- THE CELL 'sum', in the pinned program and in every row, IS THE sha256 OF THE DUMP (.gsa) THAT YtihggojbeohlkaaDoorProg.lean LOADS. Nothing in Lean hashes anything: it is a label: what it is worth is what the hold of that sum in a sandbox is worth. -/
noncomputable def Tryd.pinned : Pinned := { name := "ytihggojbeohlkaadoor", sum := "1d0999ee0f1eb427b8f5637eb37c391bca029b8a45ab07c13e36a8f6ea678e5f", checked := Tryd.checked }
namespace Rows
def none {H : Type} : Left H := { results := [], args := [] }

/- WHAT THE LISTED PACKAGE-LEVEL VARIABLES READ AS WHEN THE CALL BEGINS. Each datum BY PROGRAM (the guide's laid-datum.mjs) off the statement by which the dump's own 'gosem.cut.vars' lays the variable. In a bare row this is a premise. The card (YtihggojbeohlkaaDoorCards.lean) ties it to the program's text. -/
def laid_unicode_utf8_acceptRanges {H : Type} : DataW H := .agg [.agg [.lit (.int .u8 128), .lit (.int .u8 191)], .agg [.lit (.int .u8 160), .lit (.int .u8 191)], .agg [.lit (.int .u8 128), .lit (.int .u8 159)], .agg [.lit (.int .u8 144), .lit (.int .u8 191)], .agg [.lit (.int .u8 128), .lit (.int .u8 143)], .agg [.lit (.int .u8 0), .lit (.int .u8 0)], .agg [.lit (.int .u8 0), .lit (.int .u8 0)], .agg [.lit (.int .u8 0), .lit (.int .u8 0)], .agg [.lit (.int .u8 0), .lit (.int .u8 0)], .agg [.lit (.int .u8 0), .lit (.int .u8 0)], .agg [.lit (.int .u8 0), .lit (.int .u8 0)], .agg [.lit (.int .u8 0), .lit (.int .u8 0)], .agg [.lit (.int .u8 0), .lit (.int .u8 0)], .agg [.lit (.int .u8 0), .lit (.int .u8 0)], .agg [.lit (.int .u8 0), .lit (.int .u8 0)], .agg [.lit (.int .u8 0), .lit (.int .u8 0)]]
/-- One of Go's own tables, pinned by name: the form's constant. -/
def laid_unicode_utf8_first : DataW Unit := Go.Pinned.utf8First

/-- 'laws.FnExactNameOk': WHATEVER THE INPUT: true; the input reads as it did. -/
def fnExactNameOkSpec : ChangeSpec := { name := "fnExactNameOk", fn := fun _ => fun
  | [d] => { results := [.lit (.bool true)], args := [d] }
  | _ => none }
def fnExactNameOkRow : OpenClaim := { program := "ytihggojbeohlkaadoor", sum := "1d0999ee0f1eb427b8f5637eb37c391bca029b8a45ab07c13e36a8f6ea678e5f", func := "loop.example/g00963/laws.FnExactNameOk", spec := "fnExactNameOk", inPlace := ["internal/bytealg.CountString", "internal/bytealg.IndexByteString", "internal/bytealg.IndexString"], unfollowed := true, recurses := true, named := ["unicode/utf8.first", "unicode/utf8.acceptRanges", "internal/bytealg.MaxLen"], apart := false, laid := [("unicode/utf8.acceptRanges", laid_unicode_utf8_acceptRanges), ("unicode/utf8.first", laid_unicode_utf8_first)] }
def FnExactNameOkSaid : Prop := fnExactNameOkRow.holds Tryd.pinned (OpenSpec.ofChange fnExactNameOkSpec)

/-- ITS FALSE NEIGHBOUR: 'it returns false'. Refute it at one input. -/
def fnExactNameOkWrong : ChangeSpec := { name := "fnExactNameOk", fn := fun _ => fun
  | [d] => { results := [.lit (.bool false)], args := [d] }
  | _ => none }
def FnExactNameOkWrongFalsely : Prop := fnExactNameOkRow.holds Tryd.pinned (OpenSpec.ofChange fnExactNameOkWrong)

/-- 'laws.FnExactNameAdd': WHATEVER THE INPUT: true; the input reads as it did. -/
def fnExactNameAddSpec : ChangeSpec := { name := "fnExactNameAdd", fn := fun _ => fun
  | [d1, d2] => { results := [.lit (.bool true)], args := [d1, d2] }
  | _ => none }
def fnExactNameAddRow : OpenClaim := { program := "ytihggojbeohlkaadoor", sum := "1d0999ee0f1eb427b8f5637eb37c391bca029b8a45ab07c13e36a8f6ea678e5f", func := "loop.example/g00963/laws.FnExactNameAdd", spec := "fnExactNameAdd", inPlace := ["internal/bytealg.CountString", "internal/bytealg.IndexByteString", "internal/bytealg.IndexString"], unfollowed := true, recurses := true, named := ["unicode/utf8.first", "unicode/utf8.acceptRanges", "internal/bytealg.MaxLen"], apart := false, laid := [("unicode/utf8.acceptRanges", laid_unicode_utf8_acceptRanges), ("unicode/utf8.first", laid_unicode_utf8_first)] }
def FnExactNameAddSaid : Prop := fnExactNameAddRow.holds Tryd.pinned (OpenSpec.ofChange fnExactNameAddSpec)

/-- ITS FALSE NEIGHBOUR: 'it returns false'. Refute it at one input. -/
def fnExactNameAddWrong : ChangeSpec := { name := "fnExactNameAdd", fn := fun _ => fun
  | [d1, d2] => { results := [.lit (.bool false)], args := [d1, d2] }
  | _ => none }
def FnExactNameAddWrongFalsely : Prop := fnExactNameAddRow.holds Tryd.pinned (OpenSpec.ofChange fnExactNameAddWrong)

/-- 'laws.FnExactUnder': WHATEVER THE INPUT: true; the input reads as it did. -/
def fnExactUnderSpec : ChangeSpec := { name := "fnExactUnder", fn := fun _ => fun
  | [d1, d2] => { results := [.lit (.bool true)], args := [d1, d2] }
  | _ => none }
def fnExactUnderRow : OpenClaim := { program := "ytihggojbeohlkaadoor", sum := "1d0999ee0f1eb427b8f5637eb37c391bca029b8a45ab07c13e36a8f6ea678e5f", func := "loop.example/g00963/laws.FnExactUnder", spec := "fnExactUnder", inPlace := ["internal/bytealg.CountString", "internal/bytealg.IndexByteString", "internal/bytealg.IndexString"], unfollowed := true, recurses := true, named := ["unicode/utf8.first", "unicode/utf8.acceptRanges", "internal/bytealg.MaxLen"], apart := false, laid := [("unicode/utf8.acceptRanges", laid_unicode_utf8_acceptRanges), ("unicode/utf8.first", laid_unicode_utf8_first)] }
def FnExactUnderSaid : Prop := fnExactUnderRow.holds Tryd.pinned (OpenSpec.ofChange fnExactUnderSpec)

/-- ITS FALSE NEIGHBOUR: 'it returns false'. Refute it at one input. -/
def fnExactUnderWrong : ChangeSpec := { name := "fnExactUnder", fn := fun _ => fun
  | [d1, d2] => { results := [.lit (.bool false)], args := [d1, d2] }
  | _ => none }
def FnExactUnderWrongFalsely : Prop := fnExactUnderRow.holds Tryd.pinned (OpenSpec.ofChange fnExactUnderWrong)

/-- 'laws.FnExactNameParts': WHATEVER THE INPUT: true; the input reads as it did. -/
def fnExactNamePartsSpec : ChangeSpec := { name := "fnExactNameParts", fn := fun _ => fun
  | [d] => { results := [.lit (.bool true)], args := [d] }
  | _ => none }
def fnExactNamePartsRow : OpenClaim := { program := "ytihggojbeohlkaadoor", sum := "1d0999ee0f1eb427b8f5637eb37c391bca029b8a45ab07c13e36a8f6ea678e5f", func := "loop.example/g00963/laws.FnExactNameParts", spec := "fnExactNameParts", inPlace := ["internal/bytealg.CountString", "internal/bytealg.IndexByteString", "internal/bytealg.IndexString"], unfollowed := true, recurses := true, named := ["unicode/utf8.first", "unicode/utf8.acceptRanges", "internal/bytealg.MaxLen"], apart := false, laid := [("unicode/utf8.acceptRanges", laid_unicode_utf8_acceptRanges), ("unicode/utf8.first", laid_unicode_utf8_first)] }
def FnExactNamePartsSaid : Prop := fnExactNamePartsRow.holds Tryd.pinned (OpenSpec.ofChange fnExactNamePartsSpec)

/-- ITS FALSE NEIGHBOUR: 'it returns false'. Refute it at one input. -/
def fnExactNamePartsWrong : ChangeSpec := { name := "fnExactNameParts", fn := fun _ => fun
  | [d] => { results := [.lit (.bool false)], args := [d] }
  | _ => none }
def FnExactNamePartsWrongFalsely : Prop := fnExactNamePartsRow.holds Tryd.pinned (OpenSpec.ofChange fnExactNamePartsWrong)

/-- 'laws.FnExactNamesOk': WHATEVER THE INPUT: true; the input reads as it did. -/
def fnExactNamesOkSpec : ChangeSpec := { name := "fnExactNamesOk", fn := fun _ => fun
  | [d] => { results := [.lit (.bool true)], args := [d] }
  | _ => none }
def fnExactNamesOkRow : OpenClaim := { program := "ytihggojbeohlkaadoor", sum := "1d0999ee0f1eb427b8f5637eb37c391bca029b8a45ab07c13e36a8f6ea678e5f", func := "loop.example/g00963/laws.FnExactNamesOk", spec := "fnExactNamesOk", inPlace := ["internal/bytealg.CountString", "internal/bytealg.IndexByteString", "internal/bytealg.IndexString"], unfollowed := true, recurses := true, named := ["unicode/utf8.first", "unicode/utf8.acceptRanges", "internal/bytealg.MaxLen"], apart := false, laid := [("unicode/utf8.acceptRanges", laid_unicode_utf8_acceptRanges), ("unicode/utf8.first", laid_unicode_utf8_first)] }
def FnExactNamesOkSaid : Prop := fnExactNamesOkRow.holds Tryd.pinned (OpenSpec.ofChange fnExactNamesOkSpec)

/-- ITS FALSE NEIGHBOUR: 'it returns false'. Refute it at one input. -/
def fnExactNamesOkWrong : ChangeSpec := { name := "fnExactNamesOk", fn := fun _ => fun
  | [d] => { results := [.lit (.bool false)], args := [d] }
  | _ => none }
def FnExactNamesOkWrongFalsely : Prop := fnExactNamesOkRow.holds Tryd.pinned (OpenSpec.ofChange fnExactNamesOkWrong)

/-- 'laws.FnNames': WHATEVER THE INPUT: true; the input reads as it did. -/
def fnNamesSpec : ChangeSpec := { name := "fnNames", fn := fun _ => fun
  | [d] => { results := [.lit (.bool true)], args := [d] }
  | _ => none }
def fnNamesRow : OpenClaim := { program := "ytihggojbeohlkaadoor", sum := "1d0999ee0f1eb427b8f5637eb37c391bca029b8a45ab07c13e36a8f6ea678e5f", func := "loop.example/g00963/laws.FnNames", spec := "fnNames", inPlace := ["internal/bytealg.CountString", "internal/bytealg.IndexByteString", "internal/bytealg.IndexString"], unfollowed := true, recurses := true, named := ["unicode/utf8.first", "unicode/utf8.acceptRanges", "internal/bytealg.MaxLen"], apart := false, laid := [("unicode/utf8.acceptRanges", laid_unicode_utf8_acceptRanges), ("unicode/utf8.first", laid_unicode_utf8_first)] }
def FnNamesSaid : Prop := fnNamesRow.holds Tryd.pinned (OpenSpec.ofChange fnNamesSpec)

/-- ITS FALSE NEIGHBOUR: 'it returns false'. Refute it at one input. -/
def fnNamesWrong : ChangeSpec := { name := "fnNames", fn := fun _ => fun
  | [d] => { results := [.lit (.bool false)], args := [d] }
  | _ => none }
def FnNamesWrongFalsely : Prop := fnNamesRow.holds Tryd.pinned (OpenSpec.ofChange fnNamesWrong)

/-- 'laws.FnExactLabelOk': WHATEVER THE INPUT: true; the input reads as it did. -/
def fnExactLabelOkSpec : ChangeSpec := { name := "fnExactLabelOk", fn := fun _ => fun
  | [d] => { results := [.lit (.bool true)], args := [d] }
  | _ => none }
def fnExactLabelOkRow : OpenClaim := { program := "ytihggojbeohlkaadoor", sum := "1d0999ee0f1eb427b8f5637eb37c391bca029b8a45ab07c13e36a8f6ea678e5f", func := "loop.example/g00963/laws.FnExactLabelOk", spec := "fnExactLabelOk", inPlace := ["internal/bytealg.CountString", "internal/bytealg.IndexByteString", "internal/bytealg.IndexString"], unfollowed := true, recurses := true, named := ["unicode/utf8.first", "unicode/utf8.acceptRanges", "internal/bytealg.MaxLen"], apart := false, laid := [("unicode/utf8.acceptRanges", laid_unicode_utf8_acceptRanges), ("unicode/utf8.first", laid_unicode_utf8_first)] }
def FnExactLabelOkSaid : Prop := fnExactLabelOkRow.holds Tryd.pinned (OpenSpec.ofChange fnExactLabelOkSpec)

/-- ITS FALSE NEIGHBOUR: 'it returns false'. Refute it at one input. -/
def fnExactLabelOkWrong : ChangeSpec := { name := "fnExactLabelOk", fn := fun _ => fun
  | [d] => { results := [.lit (.bool false)], args := [d] }
  | _ => none }
def FnExactLabelOkWrongFalsely : Prop := fnExactLabelOkRow.holds Tryd.pinned (OpenSpec.ofChange fnExactLabelOkWrong)

/-- 'laws.FnExactLabelText': WHATEVER THE INPUT: true; the input reads as it did. -/
def fnExactLabelTextSpec : ChangeSpec := { name := "fnExactLabelText", fn := fun _ => fun
  | [d] => { results := [.lit (.bool true)], args := [d] }
  | _ => none }
def fnExactLabelTextRow : OpenClaim := { program := "ytihggojbeohlkaadoor", sum := "1d0999ee0f1eb427b8f5637eb37c391bca029b8a45ab07c13e36a8f6ea678e5f", func := "loop.example/g00963/laws.FnExactLabelText", spec := "fnExactLabelText", inPlace := ["internal/bytealg.CountString", "internal/bytealg.IndexByteString", "internal/bytealg.IndexString"], unfollowed := true, recurses := true, named := ["unicode/utf8.first", "unicode/utf8.acceptRanges", "internal/bytealg.MaxLen"], apart := false, laid := [("unicode/utf8.acceptRanges", laid_unicode_utf8_acceptRanges), ("unicode/utf8.first", laid_unicode_utf8_first)] }
def FnExactLabelTextSaid : Prop := fnExactLabelTextRow.holds Tryd.pinned (OpenSpec.ofChange fnExactLabelTextSpec)

/-- ITS FALSE NEIGHBOUR: 'it returns false'. Refute it at one input. -/
def fnExactLabelTextWrong : ChangeSpec := { name := "fnExactLabelText", fn := fun _ => fun
  | [d] => { results := [.lit (.bool false)], args := [d] }
  | _ => none }
def FnExactLabelTextWrongFalsely : Prop := fnExactLabelTextRow.holds Tryd.pinned (OpenSpec.ofChange fnExactLabelTextWrong)

/-- 'laws.FnExactReadLabel': WHATEVER THE INPUT: true; the input reads as it did. -/
def fnExactReadLabelSpec : ChangeSpec := { name := "fnExactReadLabel", fn := fun _ => fun
  | [d] => { results := [.lit (.bool true)], args := [d] }
  | _ => none }
def fnExactReadLabelRow : OpenClaim := { program := "ytihggojbeohlkaadoor", sum := "1d0999ee0f1eb427b8f5637eb37c391bca029b8a45ab07c13e36a8f6ea678e5f", func := "loop.example/g00963/laws.FnExactReadLabel", spec := "fnExactReadLabel", inPlace := ["internal/bytealg.IndexByteString", "internal/bytealg.IndexString", "internal/bytealg.CountString"], unfollowed := true, recurses := true, named := ["internal/bytealg.MaxLen", "unicode/utf8.first", "unicode/utf8.acceptRanges"], apart := false, laid := [("unicode/utf8.acceptRanges", laid_unicode_utf8_acceptRanges), ("unicode/utf8.first", laid_unicode_utf8_first)] }
def FnExactReadLabelSaid : Prop := fnExactReadLabelRow.holds Tryd.pinned (OpenSpec.ofChange fnExactReadLabelSpec)

/-- ITS FALSE NEIGHBOUR: 'it returns false'. Refute it at one input. -/
def fnExactReadLabelWrong : ChangeSpec := { name := "fnExactReadLabel", fn := fun _ => fun
  | [d] => { results := [.lit (.bool false)], args := [d] }
  | _ => none }
def FnExactReadLabelWrongFalsely : Prop := fnExactReadLabelRow.holds Tryd.pinned (OpenSpec.ofChange fnExactReadLabelWrong)

/-- 'laws.FnExactLabelsOk': WHATEVER THE INPUT: true; the input reads as it did. -/
def fnExactLabelsOkSpec : ChangeSpec := { name := "fnExactLabelsOk", fn := fun _ => fun
  | [d] => { results := [.lit (.bool true)], args := [d] }
  | _ => none }
def fnExactLabelsOkRow : OpenClaim := { program := "ytihggojbeohlkaadoor", sum := "1d0999ee0f1eb427b8f5637eb37c391bca029b8a45ab07c13e36a8f6ea678e5f", func := "loop.example/g00963/laws.FnExactLabelsOk", spec := "fnExactLabelsOk", inPlace := ["internal/bytealg.CountString", "internal/bytealg.IndexByteString", "internal/bytealg.IndexString"], unfollowed := true, recurses := true, named := ["unicode/utf8.first", "unicode/utf8.acceptRanges", "internal/bytealg.MaxLen"], apart := false, laid := [("unicode/utf8.acceptRanges", laid_unicode_utf8_acceptRanges), ("unicode/utf8.first", laid_unicode_utf8_first)] }
def FnExactLabelsOkSaid : Prop := fnExactLabelsOkRow.holds Tryd.pinned (OpenSpec.ofChange fnExactLabelsOkSpec)

/-- ITS FALSE NEIGHBOUR: 'it returns false'. Refute it at one input. -/
def fnExactLabelsOkWrong : ChangeSpec := { name := "fnExactLabelsOk", fn := fun _ => fun
  | [d] => { results := [.lit (.bool false)], args := [d] }
  | _ => none }
def FnExactLabelsOkWrongFalsely : Prop := fnExactLabelsOkRow.holds Tryd.pinned (OpenSpec.ofChange fnExactLabelsOkWrong)

/-- 'laws.FnExactLabelsText': WHATEVER THE INPUT: true; the input reads as it did. -/
def fnExactLabelsTextSpec : ChangeSpec := { name := "fnExactLabelsText", fn := fun _ => fun
  | [d] => { results := [.lit (.bool true)], args := [d] }
  | _ => none }
def fnExactLabelsTextRow : OpenClaim := { program := "ytihggojbeohlkaadoor", sum := "1d0999ee0f1eb427b8f5637eb37c391bca029b8a45ab07c13e36a8f6ea678e5f", func := "loop.example/g00963/laws.FnExactLabelsText", spec := "fnExactLabelsText", inPlace := ["internal/bytealg.CountString", "internal/bytealg.IndexByteString", "internal/bytealg.IndexString", "internal/abi.NoEscape", "internal/bytealg.MakeNoZero"], unfollowed := true, recurses := true, named := ["unicode/utf8.first", "unicode/utf8.acceptRanges", "internal/bytealg.MaxLen"], apart := false, laid := [("unicode/utf8.acceptRanges", laid_unicode_utf8_acceptRanges), ("unicode/utf8.first", laid_unicode_utf8_first)] }
def FnExactLabelsTextSaid : Prop := fnExactLabelsTextRow.holds Tryd.pinned (OpenSpec.ofChange fnExactLabelsTextSpec)

/-- ITS FALSE NEIGHBOUR: 'it returns false'. Refute it at one input. -/
def fnExactLabelsTextWrong : ChangeSpec := { name := "fnExactLabelsText", fn := fun _ => fun
  | [d] => { results := [.lit (.bool false)], args := [d] }
  | _ => none }
def FnExactLabelsTextWrongFalsely : Prop := fnExactLabelsTextRow.holds Tryd.pinned (OpenSpec.ofChange fnExactLabelsTextWrong)

/- THE SECOND FORM. 'bulk': how many values and letters a reading holds, each counted each time it is reached (what is shared counts as often as it is met; a slice's spare places count too). A statement '..UptoSaid' is the law's where the arguments, and the package variables that the reading takes, are together of bulk at most 1048576: NARROWER than '..Said'. Prove '..Said' where nothing that the law and all that it calls make is longer than what came in: it says more and counts as full. Else prove '..UptoSaid'. A law counts once. -/
mutual
def uptoBulk {H : Type} : DataW H → Nat
  | .lit (.string bytes) => bytes.length + 1
  | .lit _ => 1
  | .nil => 1
  | .ptr d => uptoBulk d + 1
  | .slice elems spare => uptoBulkAll elems + uptoBulkAll spare + 1
  | .agg parts => uptoBulkAll parts + 1
  | .iface _ d => uptoBulk d + 1
  | .map entries => uptoBulkEntries entries + 1
  | .held _ => 1
def uptoBulkAll {H : Type} : List (DataW H) → Nat
  | [] => 0
  | d :: r => uptoBulk d + uptoBulkAll r
def uptoBulkEntries {H : Type} : List (Lit × DataW H) → Nat
  | [] => 0
  | x :: r => uptoBulkEntry x + uptoBulkEntries r
def uptoBulkEntry {H : Type} : Lit × DataW H → Nat
  | (.string bytes, d) => bytes.length + uptoBulk d + 1
  | (_, d) => uptoBulk d + 1
 end
def uptoSmall : (H : Type) → List (DataW H) → Bool := fun _ ds => decide (uptoBulkAll ds ≤ 1048576)
def OpenSpec.upto (s : _root_.Go.ChangeSpec) : _root_.Go.OpenSpec := { _root_.Go.OpenSpec.ofChange s with cond := some uptoSmall }

/-- 'laws.FnExactNameOk', WHERE WHAT IT READS IS OF BULK AT MOST 1048576: true; the input reads as it did. -/
def fnExactNameOkUptoRow : OpenClaim := { program := "ytihggojbeohlkaadoor", sum := "1d0999ee0f1eb427b8f5637eb37c391bca029b8a45ab07c13e36a8f6ea678e5f", func := "loop.example/g00963/laws.FnExactNameOk", spec := "fnExactNameOk", inPlace := ["internal/bytealg.CountString", "internal/bytealg.IndexByteString", "internal/bytealg.IndexString"], unfollowed := true, recurses := true, named := ["unicode/utf8.first", "unicode/utf8.acceptRanges", "internal/bytealg.MaxLen"], apart := false, laid := [("unicode/utf8.acceptRanges", laid_unicode_utf8_acceptRanges), ("unicode/utf8.first", laid_unicode_utf8_first)], narrowed := true }
def FnExactNameOkUptoSaid : Prop := fnExactNameOkUptoRow.holds Tryd.pinned (OpenSpec.upto fnExactNameOkSpec)

/-- 'laws.FnExactNameAdd', WHERE WHAT IT READS IS OF BULK AT MOST 1048576: true; the input reads as it did. -/
def fnExactNameAddUptoRow : OpenClaim := { program := "ytihggojbeohlkaadoor", sum := "1d0999ee0f1eb427b8f5637eb37c391bca029b8a45ab07c13e36a8f6ea678e5f", func := "loop.example/g00963/laws.FnExactNameAdd", spec := "fnExactNameAdd", inPlace := ["internal/bytealg.CountString", "internal/bytealg.IndexByteString", "internal/bytealg.IndexString"], unfollowed := true, recurses := true, named := ["unicode/utf8.first", "unicode/utf8.acceptRanges", "internal/bytealg.MaxLen"], apart := false, laid := [("unicode/utf8.acceptRanges", laid_unicode_utf8_acceptRanges), ("unicode/utf8.first", laid_unicode_utf8_first)], narrowed := true }
def FnExactNameAddUptoSaid : Prop := fnExactNameAddUptoRow.holds Tryd.pinned (OpenSpec.upto fnExactNameAddSpec)

/-- 'laws.FnExactUnder', WHERE WHAT IT READS IS OF BULK AT MOST 1048576: true; the input reads as it did. -/
def fnExactUnderUptoRow : OpenClaim := { program := "ytihggojbeohlkaadoor", sum := "1d0999ee0f1eb427b8f5637eb37c391bca029b8a45ab07c13e36a8f6ea678e5f", func := "loop.example/g00963/laws.FnExactUnder", spec := "fnExactUnder", inPlace := ["internal/bytealg.CountString", "internal/bytealg.IndexByteString", "internal/bytealg.IndexString"], unfollowed := true, recurses := true, named := ["unicode/utf8.first", "unicode/utf8.acceptRanges", "internal/bytealg.MaxLen"], apart := false, laid := [("unicode/utf8.acceptRanges", laid_unicode_utf8_acceptRanges), ("unicode/utf8.first", laid_unicode_utf8_first)], narrowed := true }
def FnExactUnderUptoSaid : Prop := fnExactUnderUptoRow.holds Tryd.pinned (OpenSpec.upto fnExactUnderSpec)

/-- 'laws.FnExactNameParts', WHERE WHAT IT READS IS OF BULK AT MOST 1048576: true; the input reads as it did. -/
def fnExactNamePartsUptoRow : OpenClaim := { program := "ytihggojbeohlkaadoor", sum := "1d0999ee0f1eb427b8f5637eb37c391bca029b8a45ab07c13e36a8f6ea678e5f", func := "loop.example/g00963/laws.FnExactNameParts", spec := "fnExactNameParts", inPlace := ["internal/bytealg.CountString", "internal/bytealg.IndexByteString", "internal/bytealg.IndexString"], unfollowed := true, recurses := true, named := ["unicode/utf8.first", "unicode/utf8.acceptRanges", "internal/bytealg.MaxLen"], apart := false, laid := [("unicode/utf8.acceptRanges", laid_unicode_utf8_acceptRanges), ("unicode/utf8.first", laid_unicode_utf8_first)], narrowed := true }
def FnExactNamePartsUptoSaid : Prop := fnExactNamePartsUptoRow.holds Tryd.pinned (OpenSpec.upto fnExactNamePartsSpec)

/-- 'laws.FnExactNamesOk', WHERE WHAT IT READS IS OF BULK AT MOST 1048576: true; the input reads as it did. -/
def fnExactNamesOkUptoRow : OpenClaim := { program := "ytihggojbeohlkaadoor", sum := "1d0999ee0f1eb427b8f5637eb37c391bca029b8a45ab07c13e36a8f6ea678e5f", func := "loop.example/g00963/laws.FnExactNamesOk", spec := "fnExactNamesOk", inPlace := ["internal/bytealg.CountString", "internal/bytealg.IndexByteString", "internal/bytealg.IndexString"], unfollowed := true, recurses := true, named := ["unicode/utf8.first", "unicode/utf8.acceptRanges", "internal/bytealg.MaxLen"], apart := false, laid := [("unicode/utf8.acceptRanges", laid_unicode_utf8_acceptRanges), ("unicode/utf8.first", laid_unicode_utf8_first)], narrowed := true }
def FnExactNamesOkUptoSaid : Prop := fnExactNamesOkUptoRow.holds Tryd.pinned (OpenSpec.upto fnExactNamesOkSpec)

/-- 'laws.FnNames', WHERE WHAT IT READS IS OF BULK AT MOST 1048576: true; the input reads as it did. -/
def fnNamesUptoRow : OpenClaim := { program := "ytihggojbeohlkaadoor", sum := "1d0999ee0f1eb427b8f5637eb37c391bca029b8a45ab07c13e36a8f6ea678e5f", func := "loop.example/g00963/laws.FnNames", spec := "fnNames", inPlace := ["internal/bytealg.CountString", "internal/bytealg.IndexByteString", "internal/bytealg.IndexString"], unfollowed := true, recurses := true, named := ["unicode/utf8.first", "unicode/utf8.acceptRanges", "internal/bytealg.MaxLen"], apart := false, laid := [("unicode/utf8.acceptRanges", laid_unicode_utf8_acceptRanges), ("unicode/utf8.first", laid_unicode_utf8_first)], narrowed := true }
def FnNamesUptoSaid : Prop := fnNamesUptoRow.holds Tryd.pinned (OpenSpec.upto fnNamesSpec)

/-- 'laws.FnExactLabelOk', WHERE WHAT IT READS IS OF BULK AT MOST 1048576: true; the input reads as it did. -/
def fnExactLabelOkUptoRow : OpenClaim := { program := "ytihggojbeohlkaadoor", sum := "1d0999ee0f1eb427b8f5637eb37c391bca029b8a45ab07c13e36a8f6ea678e5f", func := "loop.example/g00963/laws.FnExactLabelOk", spec := "fnExactLabelOk", inPlace := ["internal/bytealg.CountString", "internal/bytealg.IndexByteString", "internal/bytealg.IndexString"], unfollowed := true, recurses := true, named := ["unicode/utf8.first", "unicode/utf8.acceptRanges", "internal/bytealg.MaxLen"], apart := false, laid := [("unicode/utf8.acceptRanges", laid_unicode_utf8_acceptRanges), ("unicode/utf8.first", laid_unicode_utf8_first)], narrowed := true }
def FnExactLabelOkUptoSaid : Prop := fnExactLabelOkUptoRow.holds Tryd.pinned (OpenSpec.upto fnExactLabelOkSpec)

/-- 'laws.FnExactLabelText', WHERE WHAT IT READS IS OF BULK AT MOST 1048576: true; the input reads as it did. -/
def fnExactLabelTextUptoRow : OpenClaim := { program := "ytihggojbeohlkaadoor", sum := "1d0999ee0f1eb427b8f5637eb37c391bca029b8a45ab07c13e36a8f6ea678e5f", func := "loop.example/g00963/laws.FnExactLabelText", spec := "fnExactLabelText", inPlace := ["internal/bytealg.CountString", "internal/bytealg.IndexByteString", "internal/bytealg.IndexString"], unfollowed := true, recurses := true, named := ["unicode/utf8.first", "unicode/utf8.acceptRanges", "internal/bytealg.MaxLen"], apart := false, laid := [("unicode/utf8.acceptRanges", laid_unicode_utf8_acceptRanges), ("unicode/utf8.first", laid_unicode_utf8_first)], narrowed := true }
def FnExactLabelTextUptoSaid : Prop := fnExactLabelTextUptoRow.holds Tryd.pinned (OpenSpec.upto fnExactLabelTextSpec)

/-- 'laws.FnExactReadLabel', WHERE WHAT IT READS IS OF BULK AT MOST 1048576: true; the input reads as it did. -/
def fnExactReadLabelUptoRow : OpenClaim := { program := "ytihggojbeohlkaadoor", sum := "1d0999ee0f1eb427b8f5637eb37c391bca029b8a45ab07c13e36a8f6ea678e5f", func := "loop.example/g00963/laws.FnExactReadLabel", spec := "fnExactReadLabel", inPlace := ["internal/bytealg.IndexByteString", "internal/bytealg.IndexString", "internal/bytealg.CountString"], unfollowed := true, recurses := true, named := ["internal/bytealg.MaxLen", "unicode/utf8.first", "unicode/utf8.acceptRanges"], apart := false, laid := [("unicode/utf8.acceptRanges", laid_unicode_utf8_acceptRanges), ("unicode/utf8.first", laid_unicode_utf8_first)], narrowed := true }
def FnExactReadLabelUptoSaid : Prop := fnExactReadLabelUptoRow.holds Tryd.pinned (OpenSpec.upto fnExactReadLabelSpec)

/-- 'laws.FnExactLabelsOk', WHERE WHAT IT READS IS OF BULK AT MOST 1048576: true; the input reads as it did. -/
def fnExactLabelsOkUptoRow : OpenClaim := { program := "ytihggojbeohlkaadoor", sum := "1d0999ee0f1eb427b8f5637eb37c391bca029b8a45ab07c13e36a8f6ea678e5f", func := "loop.example/g00963/laws.FnExactLabelsOk", spec := "fnExactLabelsOk", inPlace := ["internal/bytealg.CountString", "internal/bytealg.IndexByteString", "internal/bytealg.IndexString"], unfollowed := true, recurses := true, named := ["unicode/utf8.first", "unicode/utf8.acceptRanges", "internal/bytealg.MaxLen"], apart := false, laid := [("unicode/utf8.acceptRanges", laid_unicode_utf8_acceptRanges), ("unicode/utf8.first", laid_unicode_utf8_first)], narrowed := true }
def FnExactLabelsOkUptoSaid : Prop := fnExactLabelsOkUptoRow.holds Tryd.pinned (OpenSpec.upto fnExactLabelsOkSpec)

/-- 'laws.FnExactLabelsText', WHERE WHAT IT READS IS OF BULK AT MOST 1048576: true; the input reads as it did. -/
def fnExactLabelsTextUptoRow : OpenClaim := { program := "ytihggojbeohlkaadoor", sum := "1d0999ee0f1eb427b8f5637eb37c391bca029b8a45ab07c13e36a8f6ea678e5f", func := "loop.example/g00963/laws.FnExactLabelsText", spec := "fnExactLabelsText", inPlace := ["internal/bytealg.CountString", "internal/bytealg.IndexByteString", "internal/bytealg.IndexString", "internal/abi.NoEscape", "internal/bytealg.MakeNoZero"], unfollowed := true, recurses := true, named := ["unicode/utf8.first", "unicode/utf8.acceptRanges", "internal/bytealg.MaxLen"], apart := false, laid := [("unicode/utf8.acceptRanges", laid_unicode_utf8_acceptRanges), ("unicode/utf8.first", laid_unicode_utf8_first)], narrowed := true }
def FnExactLabelsTextUptoSaid : Prop := fnExactLabelsTextUptoRow.holds Tryd.pinned (OpenSpec.upto fnExactLabelsTextSpec)

end Rows
end Go.Proofs.YtihggojbeohlkaaDoor
