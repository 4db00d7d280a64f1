/-
  No cell of these rows narrows 'for every input' (looked for: loops, veiled, ifaces, maps, wideKeys, modest, calm, conditions, laid).
  DERIVED. THE GIVEN ROWS OF THIS SEAT. 12 by the template 'for every input the law returns true; each argument reads behind the call as it read before'; 0 by the template 'total and deterministic' (their statements: YtlikhgbdlbaklaaTotals.lean).
  GIVEN WITH THE SEED: the statements are not yours to turn. If you find one false, say at which input.
  Laid BY PROGRAM, IN A SANDBOX (cutbox-rows.mjs): the forced cells as the released guide's own fill.sh prints them over the translation 6d760f6edef4cd5e… (all of the seat's roots in one cut). By AI agents, Wed Nov 11 2026. No macro, syntax, notation, axiom, sorry.
-/
import Derived.Test.YtlikhgbdlbaklaaChecked
import GoSem.Claim
import GoSem.ClaimJoined
import GoSem.ClaimMapViews
import Derived.JoinedTies
import Derived.KernelRfl
namespace Go.Proofs.Ytlikhgbdlbaklaa
/- THE CELL 'sum', in the pinned program and in every row, IS THE sha256 OF THE DUMP (.gsa) THAT YtlikhgbdlbaklaaProg.lean LOADS. Nothing in Lean hashes anything: it is a label: what it is worth is what the hold of that sum in a sandbox is worth. -/
noncomputable def Try.pinned : Pinned := { name := "ytlikhgbdlbaklaa", sum := "6d760f6edef4cd5ea625d58ec0458183076cd79f39ee63f8798d7a5befebf5a6", checked := Try.checked }
namespace Rows
def none {H : Type} : Left H := { results := [], args := [] }

/-- 'laws.FnExactConstants': WHATEVER THE INPUT: true; the input reads as it did. -/
def fnExactConstantsSpec : ChangeSpec := { name := "fnExactConstants", fn := fun _ => fun
  | [] => { results := [.lit (.bool true)], args := [] }
  | _ => none }
def fnExactConstantsRow : OpenClaim := { program := "ytlikhgbdlbaklaa", sum := "6d760f6edef4cd5ea625d58ec0458183076cd79f39ee63f8798d7a5befebf5a6", func := "loop.example/g00963/laws.FnExactConstants", spec := "fnExactConstants", apart := false }
def FnExactConstantsSaid : Prop := fnExactConstantsRow.holds Try.pinned (OpenSpec.ofChange fnExactConstantsSpec)

/-- ITS FALSE NEIGHBOUR: 'it returns false'. Refute it at one input. -/
def fnExactConstantsWrong : ChangeSpec := { name := "fnExactConstants", fn := fun _ => fun
  | [] => { results := [.lit (.bool false)], args := [] }
  | _ => none }
def FnExactConstantsWrongFalsely : Prop := fnExactConstantsRow.holds Try.pinned (OpenSpec.ofChange fnExactConstantsWrong)

/-- 'laws.FnExactBrought': WHATEVER THE INPUT: true; the input reads as it did. -/
def fnExactBroughtSpec : ChangeSpec := { name := "fnExactBrought", fn := fun _ => fun
  | [d1, d2, d3] => { results := [.lit (.bool true)], args := [d1, d2, d3] }
  | _ => none }
def fnExactBroughtRow : OpenClaim := { program := "ytlikhgbdlbaklaa", sum := "6d760f6edef4cd5ea625d58ec0458183076cd79f39ee63f8798d7a5befebf5a6", func := "loop.example/g00963/laws.FnExactBrought", spec := "fnExactBrought", apart := false }
def FnExactBroughtSaid : Prop := fnExactBroughtRow.holds Try.pinned (OpenSpec.ofChange fnExactBroughtSpec)

/-- ITS FALSE NEIGHBOUR: 'it returns false'. Refute it at one input. -/
def fnExactBroughtWrong : ChangeSpec := { name := "fnExactBrought", fn := fun _ => fun
  | [d1, d2, d3] => { results := [.lit (.bool false)], args := [d1, d2, d3] }
  | _ => none }
def FnExactBroughtWrongFalsely : Prop := fnExactBroughtRow.holds Try.pinned (OpenSpec.ofChange fnExactBroughtWrong)

/-- 'laws.FnExactHex': WHATEVER THE INPUT: true; the input reads as it did. -/
def fnExactHexSpec : ChangeSpec := { name := "fnExactHex", fn := fun _ => fun
  | [d] => { results := [.lit (.bool true)], args := [d] }
  | _ => none }
def fnExactHexRow : OpenClaim := { program := "ytlikhgbdlbaklaa", sum := "6d760f6edef4cd5ea625d58ec0458183076cd79f39ee63f8798d7a5befebf5a6", func := "loop.example/g00963/laws.FnExactHex", spec := "fnExactHex", apart := false }
def FnExactHexSaid : Prop := fnExactHexRow.holds Try.pinned (OpenSpec.ofChange fnExactHexSpec)

/-- ITS FALSE NEIGHBOUR: 'it returns false'. Refute it at one input. -/
def fnExactHexWrong : ChangeSpec := { name := "fnExactHex", fn := fun _ => fun
  | [d] => { results := [.lit (.bool false)], args := [d] }
  | _ => none }
def FnExactHexWrongFalsely : Prop := fnExactHexRow.holds Try.pinned (OpenSpec.ofChange fnExactHexWrong)

/-- 'laws.FnExactUnhex': WHATEVER THE INPUT: true; the input reads as it did. -/
def fnExactUnhexSpec : ChangeSpec := { name := "fnExactUnhex", fn := fun _ => fun
  | [d] => { results := [.lit (.bool true)], args := [d] }
  | _ => none }
def fnExactUnhexRow : OpenClaim := { program := "ytlikhgbdlbaklaa", sum := "6d760f6edef4cd5ea625d58ec0458183076cd79f39ee63f8798d7a5befebf5a6", func := "loop.example/g00963/laws.FnExactUnhex", spec := "fnExactUnhex", inPlace := ["internal/bytealg.IndexByteString"], apart := false }
def FnExactUnhexSaid : Prop := fnExactUnhexRow.holds Try.pinned (OpenSpec.ofChange fnExactUnhexSpec)

/-- ITS FALSE NEIGHBOUR: 'it returns false'. Refute it at one input. -/
def fnExactUnhexWrong : ChangeSpec := { name := "fnExactUnhex", fn := fun _ => fun
  | [d] => { results := [.lit (.bool false)], args := [d] }
  | _ => none }
def FnExactUnhexWrongFalsely : Prop := fnExactUnhexRow.holds Try.pinned (OpenSpec.ofChange fnExactUnhexWrong)

/-- 'laws.FnExactShaStart': WHATEVER THE INPUT: true; the input reads as it did. -/
def fnExactShaStartSpec : ChangeSpec := { name := "fnExactShaStart", fn := fun _ => fun
  | [] => { results := [.lit (.bool true)], args := [] }
  | _ => none }
def fnExactShaStartRow : OpenClaim := { program := "ytlikhgbdlbaklaa", sum := "6d760f6edef4cd5ea625d58ec0458183076cd79f39ee63f8798d7a5befebf5a6", func := "loop.example/g00963/laws.FnExactShaStart", spec := "fnExactShaStart", apart := false }
def FnExactShaStartSaid : Prop := fnExactShaStartRow.holds Try.pinned (OpenSpec.ofChange fnExactShaStartSpec)

/-- ITS FALSE NEIGHBOUR: 'it returns false'. Refute it at one input. -/
def fnExactShaStartWrong : ChangeSpec := { name := "fnExactShaStart", fn := fun _ => fun
  | [] => { results := [.lit (.bool false)], args := [] }
  | _ => none }
def FnExactShaStartWrongFalsely : Prop := fnExactShaStartRow.holds Try.pinned (OpenSpec.ofChange fnExactShaStartWrong)

/-- 'laws.FnExactNameIn': WHATEVER THE INPUT: true; the input reads as it did. -/
def fnExactNameInSpec : ChangeSpec := { name := "fnExactNameIn", fn := fun _ => fun
  | [d1, d2] => { results := [.lit (.bool true)], args := [d1, d2] }
  | _ => none }
def fnExactNameInRow : OpenClaim := { program := "ytlikhgbdlbaklaa", sum := "6d760f6edef4cd5ea625d58ec0458183076cd79f39ee63f8798d7a5befebf5a6", func := "loop.example/g00963/laws.FnExactNameIn", spec := "fnExactNameIn", apart := false }
def FnExactNameInSaid : Prop := fnExactNameInRow.holds Try.pinned (OpenSpec.ofChange fnExactNameInSpec)

/-- ITS FALSE NEIGHBOUR: 'it returns false'. Refute it at one input. -/
def fnExactNameInWrong : ChangeSpec := { name := "fnExactNameIn", fn := fun _ => fun
  | [d1, d2] => { results := [.lit (.bool false)], args := [d1, d2] }
  | _ => none }
def FnExactNameInWrongFalsely : Prop := fnExactNameInRow.holds Try.pinned (OpenSpec.ofChange fnExactNameInWrong)

/-- 'laws.FnExactLevelOk': WHATEVER THE INPUT: true; the input reads as it did. -/
def fnExactLevelOkSpec : ChangeSpec := { name := "fnExactLevelOk", fn := fun _ => fun
  | [d] => { results := [.lit (.bool true)], args := [d] }
  | _ => none }
def fnExactLevelOkRow : OpenClaim := { program := "ytlikhgbdlbaklaa", sum := "6d760f6edef4cd5ea625d58ec0458183076cd79f39ee63f8798d7a5befebf5a6", func := "loop.example/g00963/laws.FnExactLevelOk", spec := "fnExactLevelOk", apart := false }
def FnExactLevelOkSaid : Prop := fnExactLevelOkRow.holds Try.pinned (OpenSpec.ofChange fnExactLevelOkSpec)

/-- ITS FALSE NEIGHBOUR: 'it returns false'. Refute it at one input. -/
def fnExactLevelOkWrong : ChangeSpec := { name := "fnExactLevelOk", fn := fun _ => fun
  | [d] => { results := [.lit (.bool false)], args := [d] }
  | _ => none }
def FnExactLevelOkWrongFalsely : Prop := fnExactLevelOkRow.holds Try.pinned (OpenSpec.ofChange fnExactLevelOkWrong)

/-- 'laws.FnLevelOrder': WHATEVER THE INPUT: true; the input reads as it did. -/
def fnLevelOrderSpec : ChangeSpec := { name := "fnLevelOrder", fn := fun _ => fun
  | [d] => { results := [.lit (.bool true)], args := [d] }
  | _ => none }
def fnLevelOrderRow : OpenClaim := { program := "ytlikhgbdlbaklaa", sum := "6d760f6edef4cd5ea625d58ec0458183076cd79f39ee63f8798d7a5befebf5a6", func := "loop.example/g00963/laws.FnLevelOrder", spec := "fnLevelOrder", inPlace := ["internal/bytealg.CountString", "internal/bytealg.IndexByteString", "internal/bytealg.IndexString"], unfollowed := true, recurses := true, named := ["internal/bytealg.MaxLen"], apart := false }
def FnLevelOrderSaid : Prop := fnLevelOrderRow.holds Try.pinned (OpenSpec.ofChange fnLevelOrderSpec)

/-- ITS FALSE NEIGHBOUR: 'it returns false'. Refute it at one input. -/
def fnLevelOrderWrong : ChangeSpec := { name := "fnLevelOrder", fn := fun _ => fun
  | [d] => { results := [.lit (.bool false)], args := [d] }
  | _ => none }
def FnLevelOrderWrongFalsely : Prop := fnLevelOrderRow.holds Try.pinned (OpenSpec.ofChange fnLevelOrderWrong)

/-- 'laws.FnExactLevelEnd': WHATEVER THE INPUT: true; the input reads as it did. -/
def fnExactLevelEndSpec : ChangeSpec := { name := "fnExactLevelEnd", fn := fun _ => fun
  | [d1, d2] => { results := [.lit (.bool true)], args := [d1, d2] }
  | _ => none }
def fnExactLevelEndRow : OpenClaim := { program := "ytlikhgbdlbaklaa", sum := "6d760f6edef4cd5ea625d58ec0458183076cd79f39ee63f8798d7a5befebf5a6", func := "loop.example/g00963/laws.FnExactLevelEnd", spec := "fnExactLevelEnd", apart := false }
def FnExactLevelEndSaid : Prop := fnExactLevelEndRow.holds Try.pinned (OpenSpec.ofChange fnExactLevelEndSpec)

/-- ITS FALSE NEIGHBOUR: 'it returns false'. Refute it at one input. -/
def fnExactLevelEndWrong : ChangeSpec := { name := "fnExactLevelEnd", fn := fun _ => fun
  | [d1, d2] => { results := [.lit (.bool false)], args := [d1, d2] }
  | _ => none }
def FnExactLevelEndWrongFalsely : Prop := fnExactLevelEndRow.holds Try.pinned (OpenSpec.ofChange fnExactLevelEndWrong)

/-- 'laws.FnExactLabelIn': WHATEVER THE INPUT: true; the input reads as it did. -/
def fnExactLabelInSpec : ChangeSpec := { name := "fnExactLabelIn", fn := fun _ => fun
  | [d1, d2] => { results := [.lit (.bool true)], args := [d1, d2] }
  | _ => none }
def fnExactLabelInRow : OpenClaim := { program := "ytlikhgbdlbaklaa", sum := "6d760f6edef4cd5ea625d58ec0458183076cd79f39ee63f8798d7a5befebf5a6", func := "loop.example/g00963/laws.FnExactLabelIn", spec := "fnExactLabelIn", apart := false }
def FnExactLabelInSaid : Prop := fnExactLabelInRow.holds Try.pinned (OpenSpec.ofChange fnExactLabelInSpec)

/-- ITS FALSE NEIGHBOUR: 'it returns false'. Refute it at one input. -/
def fnExactLabelInWrong : ChangeSpec := { name := "fnExactLabelIn", fn := fun _ => fun
  | [d1, d2] => { results := [.lit (.bool false)], args := [d1, d2] }
  | _ => none }
def FnExactLabelInWrongFalsely : Prop := fnExactLabelInRow.holds Try.pinned (OpenSpec.ofChange fnExactLabelInWrong)

/-- 'laws.FnExactLevelParams': WHATEVER THE INPUT: true; the input reads as it did. -/
def fnExactLevelParamsSpec : ChangeSpec := { name := "fnExactLevelParams", fn := fun _ => fun
  | [d] => { results := [.lit (.bool true)], args := [d] }
  | _ => none }
def fnExactLevelParamsRow : OpenClaim := { program := "ytlikhgbdlbaklaa", sum := "6d760f6edef4cd5ea625d58ec0458183076cd79f39ee63f8798d7a5befebf5a6", func := "loop.example/g00963/laws.FnExactLevelParams", spec := "fnExactLevelParams", inPlace := ["internal/bytealg.IndexByteString"], apart := false }
def FnExactLevelParamsSaid : Prop := fnExactLevelParamsRow.holds Try.pinned (OpenSpec.ofChange fnExactLevelParamsSpec)

/-- ITS FALSE NEIGHBOUR: 'it returns false'. Refute it at one input. -/
def fnExactLevelParamsWrong : ChangeSpec := { name := "fnExactLevelParams", fn := fun _ => fun
  | [d] => { results := [.lit (.bool false)], args := [d] }
  | _ => none }
def FnExactLevelParamsWrongFalsely : Prop := fnExactLevelParamsRow.holds Try.pinned (OpenSpec.ofChange fnExactLevelParamsWrong)

/-- 'laws.FnExactFlagIn': WHATEVER THE INPUT: true; the input reads as it did. -/
def fnExactFlagInSpec : ChangeSpec := { name := "fnExactFlagIn", fn := fun _ => fun
  | [d1, d2] => { results := [.lit (.bool true)], args := [d1, d2] }
  | _ => none }
def fnExactFlagInRow : OpenClaim := { program := "ytlikhgbdlbaklaa", sum := "6d760f6edef4cd5ea625d58ec0458183076cd79f39ee63f8798d7a5befebf5a6", func := "loop.example/g00963/laws.FnExactFlagIn", spec := "fnExactFlagIn", apart := false }
def FnExactFlagInSaid : Prop := fnExactFlagInRow.holds Try.pinned (OpenSpec.ofChange fnExactFlagInSpec)

/-- ITS FALSE NEIGHBOUR: 'it returns false'. Refute it at one input. -/
def fnExactFlagInWrong : ChangeSpec := { name := "fnExactFlagIn", fn := fun _ => fun
  | [d1, d2] => { results := [.lit (.bool false)], args := [d1, d2] }
  | _ => none }
def FnExactFlagInWrongFalsely : Prop := fnExactFlagInRow.holds Try.pinned (OpenSpec.ofChange fnExactFlagInWrong)

/- THE SECOND FORM. 'bulk': how many values and letters a reading holds, each counted each time it is reached (what is shared counts as often as it is met; a slice's spare places count too). A statement '..UptoSaid' is the law's where the arguments, and the package variables that the reading takes, are together of bulk at most 1048576: NARROWER than '..Said'. Prove '..Said' where nothing that the law and all that it calls make is longer than what came in: it says more and counts as full. Else prove '..UptoSaid'. A law counts once. -/
mutual
def uptoBulk {H : Type} : DataW H → Nat
  | .lit (.string bytes) => bytes.length + 1
  | .lit _ => 1
  | .nil => 1
  | .ptr d => uptoBulk d + 1
  | .slice elems spare => uptoBulkAll elems + uptoBulkAll spare + 1
  | .agg parts => uptoBulkAll parts + 1
  | .iface _ d => uptoBulk d + 1
  | .map entries => uptoBulkEntries entries + 1
  | .held _ => 1
def uptoBulkAll {H : Type} : List (DataW H) → Nat
  | [] => 0
  | d :: r => uptoBulk d + uptoBulkAll r
def uptoBulkEntries {H : Type} : List (Lit × DataW H) → Nat
  | [] => 0
  | x :: r => uptoBulkEntry x + uptoBulkEntries r
def uptoBulkEntry {H : Type} : Lit × DataW H → Nat
  | (.string bytes, d) => bytes.length + uptoBulk d + 1
  | (_, d) => uptoBulk d + 1
 end
def uptoSmall : (H : Type) → List (DataW H) → Bool := fun _ ds => decide (uptoBulkAll ds ≤ 1048576)
def OpenSpec.upto (s : _root_.Go.ChangeSpec) : _root_.Go.OpenSpec := { _root_.Go.OpenSpec.ofChange s with cond := some uptoSmall }

/-- 'laws.FnExactConstants', WHERE WHAT IT READS IS OF BULK AT MOST 1048576: true; the input reads as it did. -/
def fnExactConstantsUptoRow : OpenClaim := { program := "ytlikhgbdlbaklaa", sum := "6d760f6edef4cd5ea625d58ec0458183076cd79f39ee63f8798d7a5befebf5a6", func := "loop.example/g00963/laws.FnExactConstants", spec := "fnExactConstants", apart := false, narrowed := true }
def FnExactConstantsUptoSaid : Prop := fnExactConstantsUptoRow.holds Try.pinned (OpenSpec.upto fnExactConstantsSpec)

/-- 'laws.FnExactBrought', WHERE WHAT IT READS IS OF BULK AT MOST 1048576: true; the input reads as it did. -/
def fnExactBroughtUptoRow : OpenClaim := { program := "ytlikhgbdlbaklaa", sum := "6d760f6edef4cd5ea625d58ec0458183076cd79f39ee63f8798d7a5befebf5a6", func := "loop.example/g00963/laws.FnExactBrought", spec := "fnExactBrought", apart := false, narrowed := true }
def FnExactBroughtUptoSaid : Prop := fnExactBroughtUptoRow.holds Try.pinned (OpenSpec.upto fnExactBroughtSpec)

/-- 'laws.FnExactHex', WHERE WHAT IT READS IS OF BULK AT MOST 1048576: true; the input reads as it did. -/
def fnExactHexUptoRow : OpenClaim := { program := "ytlikhgbdlbaklaa", sum := "6d760f6edef4cd5ea625d58ec0458183076cd79f39ee63f8798d7a5befebf5a6", func := "loop.example/g00963/laws.FnExactHex", spec := "fnExactHex", apart := false, narrowed := true }
def FnExactHexUptoSaid : Prop := fnExactHexUptoRow.holds Try.pinned (OpenSpec.upto fnExactHexSpec)

/-- 'laws.FnExactUnhex', WHERE WHAT IT READS IS OF BULK AT MOST 1048576: true; the input reads as it did. -/
def fnExactUnhexUptoRow : OpenClaim := { program := "ytlikhgbdlbaklaa", sum := "6d760f6edef4cd5ea625d58ec0458183076cd79f39ee63f8798d7a5befebf5a6", func := "loop.example/g00963/laws.FnExactUnhex", spec := "fnExactUnhex", inPlace := ["internal/bytealg.IndexByteString"], apart := false, narrowed := true }
def FnExactUnhexUptoSaid : Prop := fnExactUnhexUptoRow.holds Try.pinned (OpenSpec.upto fnExactUnhexSpec)

/-- 'laws.FnExactShaStart', WHERE WHAT IT READS IS OF BULK AT MOST 1048576: true; the input reads as it did. -/
def fnExactShaStartUptoRow : OpenClaim := { program := "ytlikhgbdlbaklaa", sum := "6d760f6edef4cd5ea625d58ec0458183076cd79f39ee63f8798d7a5befebf5a6", func := "loop.example/g00963/laws.FnExactShaStart", spec := "fnExactShaStart", apart := false, narrowed := true }
def FnExactShaStartUptoSaid : Prop := fnExactShaStartUptoRow.holds Try.pinned (OpenSpec.upto fnExactShaStartSpec)

/-- 'laws.FnExactNameIn', WHERE WHAT IT READS IS OF BULK AT MOST 1048576: true; the input reads as it did. -/
def fnExactNameInUptoRow : OpenClaim := { program := "ytlikhgbdlbaklaa", sum := "6d760f6edef4cd5ea625d58ec0458183076cd79f39ee63f8798d7a5befebf5a6", func := "loop.example/g00963/laws.FnExactNameIn", spec := "fnExactNameIn", apart := false, narrowed := true }
def FnExactNameInUptoSaid : Prop := fnExactNameInUptoRow.holds Try.pinned (OpenSpec.upto fnExactNameInSpec)

/-- 'laws.FnExactLevelOk', WHERE WHAT IT READS IS OF BULK AT MOST 1048576: true; the input reads as it did. -/
def fnExactLevelOkUptoRow : OpenClaim := { program := "ytlikhgbdlbaklaa", sum := "6d760f6edef4cd5ea625d58ec0458183076cd79f39ee63f8798d7a5befebf5a6", func := "loop.example/g00963/laws.FnExactLevelOk", spec := "fnExactLevelOk", apart := false, narrowed := true }
def FnExactLevelOkUptoSaid : Prop := fnExactLevelOkUptoRow.holds Try.pinned (OpenSpec.upto fnExactLevelOkSpec)

/-- 'laws.FnLevelOrder', WHERE WHAT IT READS IS OF BULK AT MOST 1048576: true; the input reads as it did. -/
def fnLevelOrderUptoRow : OpenClaim := { program := "ytlikhgbdlbaklaa", sum := "6d760f6edef4cd5ea625d58ec0458183076cd79f39ee63f8798d7a5befebf5a6", func := "loop.example/g00963/laws.FnLevelOrder", spec := "fnLevelOrder", inPlace := ["internal/bytealg.CountString", "internal/bytealg.IndexByteString", "internal/bytealg.IndexString"], unfollowed := true, recurses := true, named := ["internal/bytealg.MaxLen"], apart := false, narrowed := true }
def FnLevelOrderUptoSaid : Prop := fnLevelOrderUptoRow.holds Try.pinned (OpenSpec.upto fnLevelOrderSpec)

/-- 'laws.FnExactLevelEnd', WHERE WHAT IT READS IS OF BULK AT MOST 1048576: true; the input reads as it did. -/
def fnExactLevelEndUptoRow : OpenClaim := { program := "ytlikhgbdlbaklaa", sum := "6d760f6edef4cd5ea625d58ec0458183076cd79f39ee63f8798d7a5befebf5a6", func := "loop.example/g00963/laws.FnExactLevelEnd", spec := "fnExactLevelEnd", apart := false, narrowed := true }
def FnExactLevelEndUptoSaid : Prop := fnExactLevelEndUptoRow.holds Try.pinned (OpenSpec.upto fnExactLevelEndSpec)

/-- 'laws.FnExactLabelIn', WHERE WHAT IT READS IS OF BULK AT MOST 1048576: true; the input reads as it did. -/
def fnExactLabelInUptoRow : OpenClaim := { program := "ytlikhgbdlbaklaa", sum := "6d760f6edef4cd5ea625d58ec0458183076cd79f39ee63f8798d7a5befebf5a6", func := "loop.example/g00963/laws.FnExactLabelIn", spec := "fnExactLabelIn", apart := false, narrowed := true }
def FnExactLabelInUptoSaid : Prop := fnExactLabelInUptoRow.holds Try.pinned (OpenSpec.upto fnExactLabelInSpec)

/-- 'laws.FnExactLevelParams', WHERE WHAT IT READS IS OF BULK AT MOST 1048576: true; the input reads as it did. -/
def fnExactLevelParamsUptoRow : OpenClaim := { program := "ytlikhgbdlbaklaa", sum := "6d760f6edef4cd5ea625d58ec0458183076cd79f39ee63f8798d7a5befebf5a6", func := "loop.example/g00963/laws.FnExactLevelParams", spec := "fnExactLevelParams", inPlace := ["internal/bytealg.IndexByteString"], apart := false, narrowed := true }
def FnExactLevelParamsUptoSaid : Prop := fnExactLevelParamsUptoRow.holds Try.pinned (OpenSpec.upto fnExactLevelParamsSpec)

/-- 'laws.FnExactFlagIn', WHERE WHAT IT READS IS OF BULK AT MOST 1048576: true; the input reads as it did. -/
def fnExactFlagInUptoRow : OpenClaim := { program := "ytlikhgbdlbaklaa", sum := "6d760f6edef4cd5ea625d58ec0458183076cd79f39ee63f8798d7a5befebf5a6", func := "loop.example/g00963/laws.FnExactFlagIn", spec := "fnExactFlagIn", apart := false, narrowed := true }
def FnExactFlagInUptoSaid : Prop := fnExactFlagInUptoRow.holds Try.pinned (OpenSpec.upto fnExactFlagInSpec)

end Rows
end Go.Proofs.Ytlikhgbdlbaklaa
