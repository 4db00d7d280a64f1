/-
  No cell of these rows narrows 'for every input' (looked for: loops, veiled, ifaces, maps, wideKeys, modest, calm, conditions, laid).
  DERIVED. THE GIVEN ROWS OF THIS SEAT. 8 by the template 'for every input the law returns true; each argument reads behind the call as it read before'; 0 by the template 'total and deterministic' (their statements: YthaeaapcdimbjaaTotals.lean).
  GIVEN WITH THE SEED: the statements are not yours to turn. If you find one false, say at which input.
  Laid BY PROGRAM, IN A SANDBOX (cutbox-rows.mjs): the forced cells as the released guide's own fill.sh prints them over the translation b7aaad4107aeb9a7… (all of the seat's roots in one cut). By AI agents, Wed Nov 11 2026. No macro, syntax, notation, axiom, sorry.
-/
import Derived.Test.YthaeaapcdimbjaaChecked
import GoSem.Claim
import GoSem.ClaimJoined
import GoSem.ClaimMapViews
import Derived.JoinedTies
import Derived.KernelRfl
namespace Go.Proofs.Ythaeaapcdimbjaa
/- THE CELL 'sum', in the pinned program and in every row, IS THE sha256 OF THE DUMP (.gsa) THAT YthaeaapcdimbjaaProg.lean LOADS. Nothing in Lean hashes anything: it is a label: what it is worth is what the hold of that sum in a sandbox is worth. -/
noncomputable def Try.pinned : Pinned := { name := "ythaeaapcdimbjaa", sum := "b7aaad4107aeb9a77946c8a75c34b07f774ede5be792788d93b7515f0ea58eef", checked := Try.checked }
namespace Rows
def none {H : Type} : Left H := { results := [], args := [] }

/-- 'laws.FnExactShaStart': WHATEVER THE INPUT: true; the input reads as it did. -/
def fnExactShaStartSpec : ChangeSpec := { name := "fnExactShaStart", fn := fun _ => fun
  | [] => { results := [.lit (.bool true)], args := [] }
  | _ => none }
def fnExactShaStartRow : OpenClaim := { program := "ythaeaapcdimbjaa", sum := "b7aaad4107aeb9a77946c8a75c34b07f774ede5be792788d93b7515f0ea58eef", func := "loop.example/g00963/laws.FnExactShaStart", spec := "fnExactShaStart", apart := false }
def FnExactShaStartSaid : Prop := fnExactShaStartRow.holds Try.pinned (OpenSpec.ofChange fnExactShaStartSpec)

/-- ITS FALSE NEIGHBOUR: 'it returns false'. Refute it at one input. -/
def fnExactShaStartWrong : ChangeSpec := { name := "fnExactShaStart", fn := fun _ => fun
  | [] => { results := [.lit (.bool false)], args := [] }
  | _ => none }
def FnExactShaStartWrongFalsely : Prop := fnExactShaStartRow.holds Try.pinned (OpenSpec.ofChange fnExactShaStartWrong)

/-- 'laws.FnExactPadText': WHATEVER THE INPUT: true; the input reads as it did. -/
def fnExactPadTextSpec : ChangeSpec := { name := "fnExactPadText", fn := fun _ => fun
  | [d] => { results := [.lit (.bool true)], args := [d] }
  | _ => none }
def fnExactPadTextRow : OpenClaim := { program := "ythaeaapcdimbjaa", sum := "b7aaad4107aeb9a77946c8a75c34b07f774ede5be792788d93b7515f0ea58eef", func := "loop.example/g00963/laws.FnExactPadText", spec := "fnExactPadText", inPlace := ["internal/abi.NoEscape", "internal/bytealg.MakeNoZero"], apart := false }
def FnExactPadTextSaid : Prop := fnExactPadTextRow.holds Try.pinned (OpenSpec.ofChange fnExactPadTextSpec)

/-- ITS FALSE NEIGHBOUR: 'it returns false'. Refute it at one input. -/
def fnExactPadTextWrong : ChangeSpec := { name := "fnExactPadText", fn := fun _ => fun
  | [d] => { results := [.lit (.bool false)], args := [d] }
  | _ => none }
def FnExactPadTextWrongFalsely : Prop := fnExactPadTextRow.holds Try.pinned (OpenSpec.ofChange fnExactPadTextWrong)

/-- 'laws.FnExactShaBlock': WHATEVER THE INPUT: true; the input reads as it did. -/
def fnExactShaBlockSpec : ChangeSpec := { name := "fnExactShaBlock", fn := fun _ => fun
  | [d1, d2] => { results := [.lit (.bool true)], args := [d1, d2] }
  | _ => none }
def fnExactShaBlockRow : OpenClaim := { program := "ythaeaapcdimbjaa", sum := "b7aaad4107aeb9a77946c8a75c34b07f774ede5be792788d93b7515f0ea58eef", func := "loop.example/g00963/laws.FnExactShaBlock", spec := "fnExactShaBlock", unfollowed := true, recurses := true, apart := false }
def FnExactShaBlockSaid : Prop := fnExactShaBlockRow.holds Try.pinned (OpenSpec.ofChange fnExactShaBlockSpec)

/-- ITS FALSE NEIGHBOUR: 'it returns false'. Refute it at one input. -/
def fnExactShaBlockWrong : ChangeSpec := { name := "fnExactShaBlock", fn := fun _ => fun
  | [d1, d2] => { results := [.lit (.bool false)], args := [d1, d2] }
  | _ => none }
def FnExactShaBlockWrongFalsely : Prop := fnExactShaBlockRow.holds Try.pinned (OpenSpec.ofChange fnExactShaBlockWrong)

/-- 'laws.FnExactDigest': WHATEVER THE INPUT: true; the input reads as it did. -/
def fnExactDigestSpec : ChangeSpec := { name := "fnExactDigest", fn := fun _ => fun
  | [d] => { results := [.lit (.bool true)], args := [d] }
  | _ => none }
def fnExactDigestRow : OpenClaim := { program := "ythaeaapcdimbjaa", sum := "b7aaad4107aeb9a77946c8a75c34b07f774ede5be792788d93b7515f0ea58eef", func := "loop.example/g00963/laws.FnExactDigest", spec := "fnExactDigest", inPlace := ["internal/abi.NoEscape", "internal/bytealg.MakeNoZero"], apart := false }
def FnExactDigestSaid : Prop := fnExactDigestRow.holds Try.pinned (OpenSpec.ofChange fnExactDigestSpec)

/-- ITS FALSE NEIGHBOUR: 'it returns false'. Refute it at one input. -/
def fnExactDigestWrong : ChangeSpec := { name := "fnExactDigest", fn := fun _ => fun
  | [d] => { results := [.lit (.bool false)], args := [d] }
  | _ => none }
def FnExactDigestWrongFalsely : Prop := fnExactDigestRow.holds Try.pinned (OpenSpec.ofChange fnExactDigestWrong)

/-- 'laws.FnExactHmacKey': WHATEVER THE INPUT: true; the input reads as it did. -/
def fnExactHmacKeySpec : ChangeSpec := { name := "fnExactHmacKey", fn := fun _ => fun
  | [d] => { results := [.lit (.bool true)], args := [d] }
  | _ => none }
def fnExactHmacKeyRow : OpenClaim := { program := "ythaeaapcdimbjaa", sum := "b7aaad4107aeb9a77946c8a75c34b07f774ede5be792788d93b7515f0ea58eef", func := "loop.example/g00963/laws.FnExactHmacKey", spec := "fnExactHmacKey", inPlace := ["internal/abi.NoEscape", "internal/bytealg.MakeNoZero"], apart := false }
def FnExactHmacKeySaid : Prop := fnExactHmacKeyRow.holds Try.pinned (OpenSpec.ofChange fnExactHmacKeySpec)

/-- ITS FALSE NEIGHBOUR: 'it returns false'. Refute it at one input. -/
def fnExactHmacKeyWrong : ChangeSpec := { name := "fnExactHmacKey", fn := fun _ => fun
  | [d] => { results := [.lit (.bool false)], args := [d] }
  | _ => none }
def FnExactHmacKeyWrongFalsely : Prop := fnExactHmacKeyRow.holds Try.pinned (OpenSpec.ofChange fnExactHmacKeyWrong)

/-- 'laws.FnExactDigestHex': WHATEVER THE INPUT: true; the input reads as it did. -/
def fnExactDigestHexSpec : ChangeSpec := { name := "fnExactDigestHex", fn := fun _ => fun
  | [d] => { results := [.lit (.bool true)], args := [d] }
  | _ => none }
def fnExactDigestHexRow : OpenClaim := { program := "ythaeaapcdimbjaa", sum := "b7aaad4107aeb9a77946c8a75c34b07f774ede5be792788d93b7515f0ea58eef", func := "loop.example/g00963/laws.FnExactDigestHex", spec := "fnExactDigestHex", inPlace := ["internal/abi.NoEscape", "internal/bytealg.MakeNoZero"], apart := false }
def FnExactDigestHexSaid : Prop := fnExactDigestHexRow.holds Try.pinned (OpenSpec.ofChange fnExactDigestHexSpec)

/-- ITS FALSE NEIGHBOUR: 'it returns false'. Refute it at one input. -/
def fnExactDigestHexWrong : ChangeSpec := { name := "fnExactDigestHex", fn := fun _ => fun
  | [d] => { results := [.lit (.bool false)], args := [d] }
  | _ => none }
def FnExactDigestHexWrongFalsely : Prop := fnExactDigestHexRow.holds Try.pinned (OpenSpec.ofChange fnExactDigestHexWrong)

/-- 'laws.FnExactHmac': WHATEVER THE INPUT: true; the input reads as it did. -/
def fnExactHmacSpec : ChangeSpec := { name := "fnExactHmac", fn := fun _ => fun
  | [d1, d2] => { results := [.lit (.bool true)], args := [d1, d2] }
  | _ => none }
def fnExactHmacRow : OpenClaim := { program := "ythaeaapcdimbjaa", sum := "b7aaad4107aeb9a77946c8a75c34b07f774ede5be792788d93b7515f0ea58eef", func := "loop.example/g00963/laws.FnExactHmac", spec := "fnExactHmac", inPlace := ["internal/abi.NoEscape", "internal/bytealg.MakeNoZero"], apart := false }
def FnExactHmacSaid : Prop := fnExactHmacRow.holds Try.pinned (OpenSpec.ofChange fnExactHmacSpec)

/-- ITS FALSE NEIGHBOUR: 'it returns false'. Refute it at one input. -/
def fnExactHmacWrong : ChangeSpec := { name := "fnExactHmac", fn := fun _ => fun
  | [d1, d2] => { results := [.lit (.bool false)], args := [d1, d2] }
  | _ => none }
def FnExactHmacWrongFalsely : Prop := fnExactHmacRow.holds Try.pinned (OpenSpec.ofChange fnExactHmacWrong)

/-- 'laws.FnDigests': WHATEVER THE INPUT: true; the input reads as it did. -/
def fnDigestsSpec : ChangeSpec := { name := "fnDigests", fn := fun _ => fun
  | [d] => { results := [.lit (.bool true)], args := [d] }
  | _ => none }
def fnDigestsRow : OpenClaim := { program := "ythaeaapcdimbjaa", sum := "b7aaad4107aeb9a77946c8a75c34b07f774ede5be792788d93b7515f0ea58eef", func := "loop.example/g00963/laws.FnDigests", spec := "fnDigests", inPlace := ["internal/abi.NoEscape", "internal/bytealg.MakeNoZero", "internal/bytealg.IndexByteString"], unfollowed := true, recurses := true, apart := false }
def FnDigestsSaid : Prop := fnDigestsRow.holds Try.pinned (OpenSpec.ofChange fnDigestsSpec)

/-- ITS FALSE NEIGHBOUR: 'it returns false'. Refute it at one input. -/
def fnDigestsWrong : ChangeSpec := { name := "fnDigests", fn := fun _ => fun
  | [d] => { results := [.lit (.bool false)], args := [d] }
  | _ => none }
def FnDigestsWrongFalsely : Prop := fnDigestsRow.holds Try.pinned (OpenSpec.ofChange fnDigestsWrong)

/- THE SECOND FORM. 'bulk': how many values and letters a reading holds, each counted each time it is reached (what is shared counts as often as it is met; a slice's spare places count too). A statement '..UptoSaid' is the law's where the arguments, and the package variables that the reading takes, are together of bulk at most 1048576: NARROWER than '..Said'. Prove '..Said' where nothing that the law and all that it calls make is longer than what came in: it says more and counts as full. Else prove '..UptoSaid'. A law counts once. -/
mutual
def uptoBulk {H : Type} : DataW H → Nat
  | .lit (.string bytes) => bytes.length + 1
  | .lit _ => 1
  | .nil => 1
  | .ptr d => uptoBulk d + 1
  | .slice elems spare => uptoBulkAll elems + uptoBulkAll spare + 1
  | .agg parts => uptoBulkAll parts + 1
  | .iface _ d => uptoBulk d + 1
  | .map entries => uptoBulkEntries entries + 1
  | .held _ => 1
def uptoBulkAll {H : Type} : List (DataW H) → Nat
  | [] => 0
  | d :: r => uptoBulk d + uptoBulkAll r
def uptoBulkEntries {H : Type} : List (Lit × DataW H) → Nat
  | [] => 0
  | x :: r => uptoBulkEntry x + uptoBulkEntries r
def uptoBulkEntry {H : Type} : Lit × DataW H → Nat
  | (.string bytes, d) => bytes.length + uptoBulk d + 1
  | (_, d) => uptoBulk d + 1
 end
def uptoSmall : (H : Type) → List (DataW H) → Bool := fun _ ds => decide (uptoBulkAll ds ≤ 1048576)
def OpenSpec.upto (s : _root_.Go.ChangeSpec) : _root_.Go.OpenSpec := { _root_.Go.OpenSpec.ofChange s with cond := some uptoSmall }

/-- 'laws.FnExactShaStart', WHERE WHAT IT READS IS OF BULK AT MOST 1048576: true; the input reads as it did. -/
def fnExactShaStartUptoRow : OpenClaim := { program := "ythaeaapcdimbjaa", sum := "b7aaad4107aeb9a77946c8a75c34b07f774ede5be792788d93b7515f0ea58eef", func := "loop.example/g00963/laws.FnExactShaStart", spec := "fnExactShaStart", apart := false, narrowed := true }
def FnExactShaStartUptoSaid : Prop := fnExactShaStartUptoRow.holds Try.pinned (OpenSpec.upto fnExactShaStartSpec)

/-- 'laws.FnExactPadText', WHERE WHAT IT READS IS OF BULK AT MOST 1048576: true; the input reads as it did. -/
def fnExactPadTextUptoRow : OpenClaim := { program := "ythaeaapcdimbjaa", sum := "b7aaad4107aeb9a77946c8a75c34b07f774ede5be792788d93b7515f0ea58eef", func := "loop.example/g00963/laws.FnExactPadText", spec := "fnExactPadText", inPlace := ["internal/abi.NoEscape", "internal/bytealg.MakeNoZero"], apart := false, narrowed := true }
def FnExactPadTextUptoSaid : Prop := fnExactPadTextUptoRow.holds Try.pinned (OpenSpec.upto fnExactPadTextSpec)

/-- 'laws.FnExactShaBlock', WHERE WHAT IT READS IS OF BULK AT MOST 1048576: true; the input reads as it did. -/
def fnExactShaBlockUptoRow : OpenClaim := { program := "ythaeaapcdimbjaa", sum := "b7aaad4107aeb9a77946c8a75c34b07f774ede5be792788d93b7515f0ea58eef", func := "loop.example/g00963/laws.FnExactShaBlock", spec := "fnExactShaBlock", unfollowed := true, recurses := true, apart := false, narrowed := true }
def FnExactShaBlockUptoSaid : Prop := fnExactShaBlockUptoRow.holds Try.pinned (OpenSpec.upto fnExactShaBlockSpec)

/-- 'laws.FnExactDigest', WHERE WHAT IT READS IS OF BULK AT MOST 1048576: true; the input reads as it did. -/
def fnExactDigestUptoRow : OpenClaim := { program := "ythaeaapcdimbjaa", sum := "b7aaad4107aeb9a77946c8a75c34b07f774ede5be792788d93b7515f0ea58eef", func := "loop.example/g00963/laws.FnExactDigest", spec := "fnExactDigest", inPlace := ["internal/abi.NoEscape", "internal/bytealg.MakeNoZero"], apart := false, narrowed := true }
def FnExactDigestUptoSaid : Prop := fnExactDigestUptoRow.holds Try.pinned (OpenSpec.upto fnExactDigestSpec)

/-- 'laws.FnExactHmacKey', WHERE WHAT IT READS IS OF BULK AT MOST 1048576: true; the input reads as it did. -/
def fnExactHmacKeyUptoRow : OpenClaim := { program := "ythaeaapcdimbjaa", sum := "b7aaad4107aeb9a77946c8a75c34b07f774ede5be792788d93b7515f0ea58eef", func := "loop.example/g00963/laws.FnExactHmacKey", spec := "fnExactHmacKey", inPlace := ["internal/abi.NoEscape", "internal/bytealg.MakeNoZero"], apart := false, narrowed := true }
def FnExactHmacKeyUptoSaid : Prop := fnExactHmacKeyUptoRow.holds Try.pinned (OpenSpec.upto fnExactHmacKeySpec)

/-- 'laws.FnExactDigestHex', WHERE WHAT IT READS IS OF BULK AT MOST 1048576: true; the input reads as it did. -/
def fnExactDigestHexUptoRow : OpenClaim := { program := "ythaeaapcdimbjaa", sum := "b7aaad4107aeb9a77946c8a75c34b07f774ede5be792788d93b7515f0ea58eef", func := "loop.example/g00963/laws.FnExactDigestHex", spec := "fnExactDigestHex", inPlace := ["internal/abi.NoEscape", "internal/bytealg.MakeNoZero"], apart := false, narrowed := true }
def FnExactDigestHexUptoSaid : Prop := fnExactDigestHexUptoRow.holds Try.pinned (OpenSpec.upto fnExactDigestHexSpec)

/-- 'laws.FnExactHmac', WHERE WHAT IT READS IS OF BULK AT MOST 1048576: true; the input reads as it did. -/
def fnExactHmacUptoRow : OpenClaim := { program := "ythaeaapcdimbjaa", sum := "b7aaad4107aeb9a77946c8a75c34b07f774ede5be792788d93b7515f0ea58eef", func := "loop.example/g00963/laws.FnExactHmac", spec := "fnExactHmac", inPlace := ["internal/abi.NoEscape", "internal/bytealg.MakeNoZero"], apart := false, narrowed := true }
def FnExactHmacUptoSaid : Prop := fnExactHmacUptoRow.holds Try.pinned (OpenSpec.upto fnExactHmacSpec)

/-- 'laws.FnDigests', WHERE WHAT IT READS IS OF BULK AT MOST 1048576: true; the input reads as it did. -/
def fnDigestsUptoRow : OpenClaim := { program := "ythaeaapcdimbjaa", sum := "b7aaad4107aeb9a77946c8a75c34b07f774ede5be792788d93b7515f0ea58eef", func := "loop.example/g00963/laws.FnDigests", spec := "fnDigests", inPlace := ["internal/abi.NoEscape", "internal/bytealg.MakeNoZero", "internal/bytealg.IndexByteString"], unfollowed := true, recurses := true, apart := false, narrowed := true }
def FnDigestsUptoSaid : Prop := fnDigestsUptoRow.holds Try.pinned (OpenSpec.upto fnDigestsSpec)

end Rows
end Go.Proofs.Ythaeaapcdimbjaa
