/-
  No cell of these rows narrows 'for every input' (looked for: loops, veiled, ifaces, maps, wideKeys, modest, calm, conditions, laid).
  DERIVED. THE GIVEN ROWS OF THIS SEAT. 2 by the template 'for every input the law returns true; each argument reads behind the call as it read before'; 0 by the template 'total and deterministic' (their statements: YtckdocofmffheaaTotals.lean).
  GIVEN WITH THE SEED: the statements are not yours to turn. If you find one false, say at which input.
  Laid BY PROGRAM, IN A SANDBOX (cutbox-rows.mjs): the forced cells as the released guide's own fill.sh prints them over the translation 36cd5db6bf8b3966… (all of the seat's roots in one cut). By AI agents, Wed Nov 11 2026. No macro, syntax, notation, axiom, sorry.
-/
import Derived.Test.YtckdocofmffheaaChecked
import GoSem.Claim
import GoSem.ClaimJoined
import GoSem.ClaimMapViews
import Derived.JoinedTies
import Derived.KernelRfl
namespace Go.Proofs.Ytckdocofmffheaa
/- THE CELL 'sum', in the pinned program and in every row, IS THE sha256 OF THE DUMP (.gsa) THAT YtckdocofmffheaaProg.lean LOADS. Nothing in Lean hashes anything: it is a label: what it is worth is what the hold of that sum in a sandbox is worth. -/
noncomputable def Try.pinned : Pinned := { name := "ytckdocofmffheaa", sum := "36cd5db6bf8b39665becd82d511f11565258f5e8e8c9f95c31007c1a83590484", checked := Try.checked }
namespace Rows
def none {H : Type} : Left H := { results := [], args := [] }

/-- 'laws.FnExactLabelsWithin': WHATEVER THE INPUT: true; the input reads as it did. -/
def fnExactLabelsWithinSpec : ChangeSpec := { name := "fnExactLabelsWithin", fn := fun _ => fun
  | [d1, d2] => { results := [.lit (.bool true)], args := [d1, d2] }
  | _ => none }
def fnExactLabelsWithinRow : OpenClaim := { program := "ytckdocofmffheaa", sum := "36cd5db6bf8b39665becd82d511f11565258f5e8e8c9f95c31007c1a83590484", func := "loop.example/g00963/laws.FnExactLabelsWithin", spec := "fnExactLabelsWithin", unfollowed := true, recurses := true, apart := false }
def FnExactLabelsWithinSaid : Prop := fnExactLabelsWithinRow.holds Try.pinned (OpenSpec.ofChange fnExactLabelsWithinSpec)

/-- ITS FALSE NEIGHBOUR: 'it returns false'. Refute it at one input. -/
def fnExactLabelsWithinWrong : ChangeSpec := { name := "fnExactLabelsWithin", fn := fun _ => fun
  | [d1, d2] => { results := [.lit (.bool false)], args := [d1, d2] }
  | _ => none }
def FnExactLabelsWithinWrongFalsely : Prop := fnExactLabelsWithinRow.holds Try.pinned (OpenSpec.ofChange fnExactLabelsWithinWrong)

/-- 'laws.FnExactLabelsBoth': WHATEVER THE INPUT: true; the input reads as it did. -/
def fnExactLabelsBothSpec : ChangeSpec := { name := "fnExactLabelsBoth", fn := fun _ => fun
  | [d1, d2] => { results := [.lit (.bool true)], args := [d1, d2] }
  | _ => none }
def fnExactLabelsBothRow : OpenClaim := { program := "ytckdocofmffheaa", sum := "36cd5db6bf8b39665becd82d511f11565258f5e8e8c9f95c31007c1a83590484", func := "loop.example/g00963/laws.FnExactLabelsBoth", spec := "fnExactLabelsBoth", unfollowed := true, recurses := true, apart := false }
def FnExactLabelsBothSaid : Prop := fnExactLabelsBothRow.holds Try.pinned (OpenSpec.ofChange fnExactLabelsBothSpec)

/-- ITS FALSE NEIGHBOUR: 'it returns false'. Refute it at one input. -/
def fnExactLabelsBothWrong : ChangeSpec := { name := "fnExactLabelsBoth", fn := fun _ => fun
  | [d1, d2] => { results := [.lit (.bool false)], args := [d1, d2] }
  | _ => none }
def FnExactLabelsBothWrongFalsely : Prop := fnExactLabelsBothRow.holds Try.pinned (OpenSpec.ofChange fnExactLabelsBothWrong)

/- THE SECOND FORM. 'bulk': how many values and letters a reading holds, each counted each time it is reached (what is shared counts as often as it is met; a slice's spare places count too). A statement '..UptoSaid' is the law's where the arguments, and the package variables that the reading takes, are together of bulk at most 1048576: NARROWER than '..Said'. Prove '..Said' where nothing that the law and all that it calls make is longer than what came in: it says more and counts as full. Else prove '..UptoSaid'. A law counts once. -/
mutual
def uptoBulk {H : Type} : DataW H → Nat
  | .lit (.string bytes) => bytes.length + 1
  | .lit _ => 1
  | .nil => 1
  | .ptr d => uptoBulk d + 1
  | .slice elems spare => uptoBulkAll elems + uptoBulkAll spare + 1
  | .agg parts => uptoBulkAll parts + 1
  | .iface _ d => uptoBulk d + 1
  | .map entries => uptoBulkEntries entries + 1
  | .held _ => 1
def uptoBulkAll {H : Type} : List (DataW H) → Nat
  | [] => 0
  | d :: r => uptoBulk d + uptoBulkAll r
def uptoBulkEntries {H : Type} : List (Lit × DataW H) → Nat
  | [] => 0
  | x :: r => uptoBulkEntry x + uptoBulkEntries r
def uptoBulkEntry {H : Type} : Lit × DataW H → Nat
  | (.string bytes, d) => bytes.length + uptoBulk d + 1
  | (_, d) => uptoBulk d + 1
 end
def uptoSmall : (H : Type) → List (DataW H) → Bool := fun _ ds => decide (uptoBulkAll ds ≤ 1048576)
def OpenSpec.upto (s : _root_.Go.ChangeSpec) : _root_.Go.OpenSpec := { _root_.Go.OpenSpec.ofChange s with cond := some uptoSmall }

/-- 'laws.FnExactLabelsWithin', WHERE WHAT IT READS IS OF BULK AT MOST 1048576: true; the input reads as it did. -/
def fnExactLabelsWithinUptoRow : OpenClaim := { program := "ytckdocofmffheaa", sum := "36cd5db6bf8b39665becd82d511f11565258f5e8e8c9f95c31007c1a83590484", func := "loop.example/g00963/laws.FnExactLabelsWithin", spec := "fnExactLabelsWithin", unfollowed := true, recurses := true, apart := false, narrowed := true }
def FnExactLabelsWithinUptoSaid : Prop := fnExactLabelsWithinUptoRow.holds Try.pinned (OpenSpec.upto fnExactLabelsWithinSpec)

/-- 'laws.FnExactLabelsBoth', WHERE WHAT IT READS IS OF BULK AT MOST 1048576: true; the input reads as it did. -/
def fnExactLabelsBothUptoRow : OpenClaim := { program := "ytckdocofmffheaa", sum := "36cd5db6bf8b39665becd82d511f11565258f5e8e8c9f95c31007c1a83590484", func := "loop.example/g00963/laws.FnExactLabelsBoth", spec := "fnExactLabelsBoth", unfollowed := true, recurses := true, apart := false, narrowed := true }
def FnExactLabelsBothUptoSaid : Prop := fnExactLabelsBothUptoRow.holds Try.pinned (OpenSpec.upto fnExactLabelsBothSpec)

end Rows
end Go.Proofs.Ytckdocofmffheaa
