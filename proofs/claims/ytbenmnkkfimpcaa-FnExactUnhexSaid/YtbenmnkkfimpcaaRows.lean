/-
  No cell of these rows narrows 'for every input' (looked for: loops, veiled, ifaces, maps, wideKeys, modest, calm, conditions, laid).
  DERIVED. THE GIVEN ROWS OF THIS SEAT. 7 by the template 'for every input the law returns true; each argument reads behind the call as it read before'; 0 by the template 'total and deterministic' (their statements: YtbenmnkkfimpcaaTotals.lean).
  GIVEN WITH THE SEED: the statements are not yours to turn. If you find one false, say at which input.
  Laid BY PROGRAM, IN A SANDBOX (cutbox-rows.mjs): the forced cells as the released guide's own fill.sh prints them over the translation 826b8f6c877788be… (all of the seat's roots in one cut). By AI agents, Wed Nov 11 2026. No macro, syntax, notation, axiom, sorry.
-/
import Derived.Test.YtbenmnkkfimpcaaChecked
import GoSem.Claim
import GoSem.ClaimJoined
import GoSem.ClaimMapViews
import Derived.JoinedTies
import Derived.KernelRfl
namespace Go.Proofs.Ytbenmnkkfimpcaa
/- THE CELL 'sum', in the pinned program and in every row, IS THE sha256 OF THE DUMP (.gsa) THAT YtbenmnkkfimpcaaProg.lean LOADS. Nothing in Lean hashes anything: it is a label: what it is worth is what the hold of that sum in a sandbox is worth. -/
noncomputable def Try.pinned : Pinned := { name := "ytbenmnkkfimpcaa", sum := "826b8f6c877788be19068d27f22cba3e4bd8020798ab5e4a8e062a7c25c04565", checked := Try.checked }
namespace Rows
def none {H : Type} : Left H := { results := [], args := [] }

/-- 'laws.FnExactUnhex': WHATEVER THE INPUT: true; the input reads as it did. -/
def fnExactUnhexSpec : ChangeSpec := { name := "fnExactUnhex", fn := fun _ => fun
  | [d] => { results := [.lit (.bool true)], args := [d] }
  | _ => none }
def fnExactUnhexRow : OpenClaim := { program := "ytbenmnkkfimpcaa", sum := "826b8f6c877788be19068d27f22cba3e4bd8020798ab5e4a8e062a7c25c04565", func := "loop.example/g00963/laws.FnExactUnhex", spec := "fnExactUnhex", inPlace := ["internal/bytealg.IndexByteString"], apart := false }
def FnExactUnhexSaid : Prop := fnExactUnhexRow.holds Try.pinned (OpenSpec.ofChange fnExactUnhexSpec)

/-- ITS FALSE NEIGHBOUR: 'it returns false'. Refute it at one input. -/
def fnExactUnhexWrong : ChangeSpec := { name := "fnExactUnhex", fn := fun _ => fun
  | [d] => { results := [.lit (.bool false)], args := [d] }
  | _ => none }
def FnExactUnhexWrongFalsely : Prop := fnExactUnhexRow.holds Try.pinned (OpenSpec.ofChange fnExactUnhexWrong)

/-- 'laws.FnExactHex': WHATEVER THE INPUT: true; the input reads as it did. -/
def fnExactHexSpec : ChangeSpec := { name := "fnExactHex", fn := fun _ => fun
  | [d] => { results := [.lit (.bool true)], args := [d] }
  | _ => none }
def fnExactHexRow : OpenClaim := { program := "ytbenmnkkfimpcaa", sum := "826b8f6c877788be19068d27f22cba3e4bd8020798ab5e4a8e062a7c25c04565", func := "loop.example/g00963/laws.FnExactHex", spec := "fnExactHex", apart := false }
def FnExactHexSaid : Prop := fnExactHexRow.holds Try.pinned (OpenSpec.ofChange fnExactHexSpec)

/-- ITS FALSE NEIGHBOUR: 'it returns false'. Refute it at one input. -/
def fnExactHexWrong : ChangeSpec := { name := "fnExactHex", fn := fun _ => fun
  | [d] => { results := [.lit (.bool false)], args := [d] }
  | _ => none }
def FnExactHexWrongFalsely : Prop := fnExactHexRow.holds Try.pinned (OpenSpec.ofChange fnExactHexWrong)

/-- 'laws.FnExactVerdictOf': WHATEVER THE INPUT: true; the input reads as it did. -/
def fnExactVerdictOfSpec : ChangeSpec := { name := "fnExactVerdictOf", fn := fun _ => fun
  | [d1, d2] => { results := [.lit (.bool true)], args := [d1, d2] }
  | _ => none }
def fnExactVerdictOfRow : OpenClaim := { program := "ytbenmnkkfimpcaa", sum := "826b8f6c877788be19068d27f22cba3e4bd8020798ab5e4a8e062a7c25c04565", func := "loop.example/g00963/laws.FnExactVerdictOf", spec := "fnExactVerdictOf", apart := false }
def FnExactVerdictOfSaid : Prop := fnExactVerdictOfRow.holds Try.pinned (OpenSpec.ofChange fnExactVerdictOfSpec)

/-- ITS FALSE NEIGHBOUR: 'it returns false'. Refute it at one input. -/
def fnExactVerdictOfWrong : ChangeSpec := { name := "fnExactVerdictOf", fn := fun _ => fun
  | [d1, d2] => { results := [.lit (.bool false)], args := [d1, d2] }
  | _ => none }
def FnExactVerdictOfWrongFalsely : Prop := fnExactVerdictOfRow.holds Try.pinned (OpenSpec.ofChange fnExactVerdictOfWrong)

/-- 'laws.FnExactAdded': WHATEVER THE INPUT: true; the input reads as it did. -/
def fnExactAddedSpec : ChangeSpec := { name := "fnExactAdded", fn := fun _ => fun
  | [d1, d2, d3] => { results := [.lit (.bool true)], args := [d1, d2, d3] }
  | _ => none }
def fnExactAddedRow : OpenClaim := { program := "ytbenmnkkfimpcaa", sum := "826b8f6c877788be19068d27f22cba3e4bd8020798ab5e4a8e062a7c25c04565", func := "loop.example/g00963/laws.FnExactAdded", spec := "fnExactAdded", apart := false }
def FnExactAddedSaid : Prop := fnExactAddedRow.holds Try.pinned (OpenSpec.ofChange fnExactAddedSpec)

/-- ITS FALSE NEIGHBOUR: 'it returns false'. Refute it at one input. -/
def fnExactAddedWrong : ChangeSpec := { name := "fnExactAdded", fn := fun _ => fun
  | [d1, d2, d3] => { results := [.lit (.bool false)], args := [d1, d2, d3] }
  | _ => none }
def FnExactAddedWrongFalsely : Prop := fnExactAddedRow.holds Try.pinned (OpenSpec.ofChange fnExactAddedWrong)

/-- 'laws.FnExactFlagIn': WHATEVER THE INPUT: true; the input reads as it did. -/
def fnExactFlagInSpec : ChangeSpec := { name := "fnExactFlagIn", fn := fun _ => fun
  | [d1, d2] => { results := [.lit (.bool true)], args := [d1, d2] }
  | _ => none }
def fnExactFlagInRow : OpenClaim := { program := "ytbenmnkkfimpcaa", sum := "826b8f6c877788be19068d27f22cba3e4bd8020798ab5e4a8e062a7c25c04565", func := "loop.example/g00963/laws.FnExactFlagIn", spec := "fnExactFlagIn", apart := false }
def FnExactFlagInSaid : Prop := fnExactFlagInRow.holds Try.pinned (OpenSpec.ofChange fnExactFlagInSpec)

/-- ITS FALSE NEIGHBOUR: 'it returns false'. Refute it at one input. -/
def fnExactFlagInWrong : ChangeSpec := { name := "fnExactFlagIn", fn := fun _ => fun
  | [d1, d2] => { results := [.lit (.bool false)], args := [d1, d2] }
  | _ => none }
def FnExactFlagInWrongFalsely : Prop := fnExactFlagInRow.holds Try.pinned (OpenSpec.ofChange fnExactFlagInWrong)

/-- 'laws.FnExactNameIn': WHATEVER THE INPUT: true; the input reads as it did. -/
def fnExactNameInSpec : ChangeSpec := { name := "fnExactNameIn", fn := fun _ => fun
  | [d1, d2] => { results := [.lit (.bool true)], args := [d1, d2] }
  | _ => none }
def fnExactNameInRow : OpenClaim := { program := "ytbenmnkkfimpcaa", sum := "826b8f6c877788be19068d27f22cba3e4bd8020798ab5e4a8e062a7c25c04565", func := "loop.example/g00963/laws.FnExactNameIn", spec := "fnExactNameIn", apart := false }
def FnExactNameInSaid : Prop := fnExactNameInRow.holds Try.pinned (OpenSpec.ofChange fnExactNameInSpec)

/-- ITS FALSE NEIGHBOUR: 'it returns false'. Refute it at one input. -/
def fnExactNameInWrong : ChangeSpec := { name := "fnExactNameIn", fn := fun _ => fun
  | [d1, d2] => { results := [.lit (.bool false)], args := [d1, d2] }
  | _ => none }
def FnExactNameInWrongFalsely : Prop := fnExactNameInRow.holds Try.pinned (OpenSpec.ofChange fnExactNameInWrong)

/-- 'laws.FnExactLabelIn': WHATEVER THE INPUT: true; the input reads as it did. -/
def fnExactLabelInSpec : ChangeSpec := { name := "fnExactLabelIn", fn := fun _ => fun
  | [d1, d2] => { results := [.lit (.bool true)], args := [d1, d2] }
  | _ => none }
def fnExactLabelInRow : OpenClaim := { program := "ytbenmnkkfimpcaa", sum := "826b8f6c877788be19068d27f22cba3e4bd8020798ab5e4a8e062a7c25c04565", func := "loop.example/g00963/laws.FnExactLabelIn", spec := "fnExactLabelIn", apart := false }
def FnExactLabelInSaid : Prop := fnExactLabelInRow.holds Try.pinned (OpenSpec.ofChange fnExactLabelInSpec)

/-- ITS FALSE NEIGHBOUR: 'it returns false'. Refute it at one input. -/
def fnExactLabelInWrong : ChangeSpec := { name := "fnExactLabelIn", fn := fun _ => fun
  | [d1, d2] => { results := [.lit (.bool false)], args := [d1, d2] }
  | _ => none }
def FnExactLabelInWrongFalsely : Prop := fnExactLabelInRow.holds Try.pinned (OpenSpec.ofChange fnExactLabelInWrong)

/- THE SECOND FORM. 'bulk': how many values and letters a reading holds, each counted each time it is reached (what is shared counts as often as it is met; a slice's spare places count too). A statement '..UptoSaid' is the law's where the arguments, and the package variables that the reading takes, are together of bulk at most 1048576: NARROWER than '..Said'. Prove '..Said' where nothing that the law and all that it calls make is longer than what came in: it says more and counts as full. Else prove '..UptoSaid'. A law counts once. -/
mutual
def uptoBulk {H : Type} : DataW H → Nat
  | .lit (.string bytes) => bytes.length + 1
  | .lit _ => 1
  | .nil => 1
  | .ptr d => uptoBulk d + 1
  | .slice elems spare => uptoBulkAll elems + uptoBulkAll spare + 1
  | .agg parts => uptoBulkAll parts + 1
  | .iface _ d => uptoBulk d + 1
  | .map entries => uptoBulkEntries entries + 1
  | .held _ => 1
def uptoBulkAll {H : Type} : List (DataW H) → Nat
  | [] => 0
  | d :: r => uptoBulk d + uptoBulkAll r
def uptoBulkEntries {H : Type} : List (Lit × DataW H) → Nat
  | [] => 0
  | x :: r => uptoBulkEntry x + uptoBulkEntries r
def uptoBulkEntry {H : Type} : Lit × DataW H → Nat
  | (.string bytes, d) => bytes.length + uptoBulk d + 1
  | (_, d) => uptoBulk d + 1
 end
def uptoSmall : (H : Type) → List (DataW H) → Bool := fun _ ds => decide (uptoBulkAll ds ≤ 1048576)
def OpenSpec.upto (s : _root_.Go.ChangeSpec) : _root_.Go.OpenSpec := { _root_.Go.OpenSpec.ofChange s with cond := some uptoSmall }

/-- 'laws.FnExactUnhex', WHERE WHAT IT READS IS OF BULK AT MOST 1048576: true; the input reads as it did. -/
def fnExactUnhexUptoRow : OpenClaim := { program := "ytbenmnkkfimpcaa", sum := "826b8f6c877788be19068d27f22cba3e4bd8020798ab5e4a8e062a7c25c04565", func := "loop.example/g00963/laws.FnExactUnhex", spec := "fnExactUnhex", inPlace := ["internal/bytealg.IndexByteString"], apart := false, narrowed := true }
def FnExactUnhexUptoSaid : Prop := fnExactUnhexUptoRow.holds Try.pinned (OpenSpec.upto fnExactUnhexSpec)

/-- 'laws.FnExactHex', WHERE WHAT IT READS IS OF BULK AT MOST 1048576: true; the input reads as it did. -/
def fnExactHexUptoRow : OpenClaim := { program := "ytbenmnkkfimpcaa", sum := "826b8f6c877788be19068d27f22cba3e4bd8020798ab5e4a8e062a7c25c04565", func := "loop.example/g00963/laws.FnExactHex", spec := "fnExactHex", apart := false, narrowed := true }
def FnExactHexUptoSaid : Prop := fnExactHexUptoRow.holds Try.pinned (OpenSpec.upto fnExactHexSpec)

/-- 'laws.FnExactVerdictOf', WHERE WHAT IT READS IS OF BULK AT MOST 1048576: true; the input reads as it did. -/
def fnExactVerdictOfUptoRow : OpenClaim := { program := "ytbenmnkkfimpcaa", sum := "826b8f6c877788be19068d27f22cba3e4bd8020798ab5e4a8e062a7c25c04565", func := "loop.example/g00963/laws.FnExactVerdictOf", spec := "fnExactVerdictOf", apart := false, narrowed := true }
def FnExactVerdictOfUptoSaid : Prop := fnExactVerdictOfUptoRow.holds Try.pinned (OpenSpec.upto fnExactVerdictOfSpec)

/-- 'laws.FnExactAdded', WHERE WHAT IT READS IS OF BULK AT MOST 1048576: true; the input reads as it did. -/
def fnExactAddedUptoRow : OpenClaim := { program := "ytbenmnkkfimpcaa", sum := "826b8f6c877788be19068d27f22cba3e4bd8020798ab5e4a8e062a7c25c04565", func := "loop.example/g00963/laws.FnExactAdded", spec := "fnExactAdded", apart := false, narrowed := true }
def FnExactAddedUptoSaid : Prop := fnExactAddedUptoRow.holds Try.pinned (OpenSpec.upto fnExactAddedSpec)

/-- 'laws.FnExactFlagIn', WHERE WHAT IT READS IS OF BULK AT MOST 1048576: true; the input reads as it did. -/
def fnExactFlagInUptoRow : OpenClaim := { program := "ytbenmnkkfimpcaa", sum := "826b8f6c877788be19068d27f22cba3e4bd8020798ab5e4a8e062a7c25c04565", func := "loop.example/g00963/laws.FnExactFlagIn", spec := "fnExactFlagIn", apart := false, narrowed := true }
def FnExactFlagInUptoSaid : Prop := fnExactFlagInUptoRow.holds Try.pinned (OpenSpec.upto fnExactFlagInSpec)

/-- 'laws.FnExactNameIn', WHERE WHAT IT READS IS OF BULK AT MOST 1048576: true; the input reads as it did. -/
def fnExactNameInUptoRow : OpenClaim := { program := "ytbenmnkkfimpcaa", sum := "826b8f6c877788be19068d27f22cba3e4bd8020798ab5e4a8e062a7c25c04565", func := "loop.example/g00963/laws.FnExactNameIn", spec := "fnExactNameIn", apart := false, narrowed := true }
def FnExactNameInUptoSaid : Prop := fnExactNameInUptoRow.holds Try.pinned (OpenSpec.upto fnExactNameInSpec)

/-- 'laws.FnExactLabelIn', WHERE WHAT IT READS IS OF BULK AT MOST 1048576: true; the input reads as it did. -/
def fnExactLabelInUptoRow : OpenClaim := { program := "ytbenmnkkfimpcaa", sum := "826b8f6c877788be19068d27f22cba3e4bd8020798ab5e4a8e062a7c25c04565", func := "loop.example/g00963/laws.FnExactLabelIn", spec := "fnExactLabelIn", apart := false, narrowed := true }
def FnExactLabelInUptoSaid : Prop := fnExactLabelInUptoRow.holds Try.pinned (OpenSpec.upto fnExactLabelInSpec)

end Rows
end Go.Proofs.Ytbenmnkkfimpcaa
