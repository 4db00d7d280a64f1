/-
  No cell of these rows narrows 'for every input' (looked for: loops, veiled, ifaces, maps, wideKeys, modest, calm, conditions, laid).
  DERIVED. THE GIVEN ROWS OF THIS SEAT. 12 by the template 'for every input the law returns true; each argument reads behind the call as it read before'; 0 by the template 'total and deterministic' (their statements: YtjnfehajgogjiaaTotals.lean).
  GIVEN WITH THE SEED: the statements are not yours to turn. If you find one false, say at which input.
  Laid BY PROGRAM, IN A SANDBOX (cutbox-rows.mjs): the forced cells as the released guide's own fill.sh prints them over the translation fe17212b3be450f4… (all of the seat's roots in one cut). By AI agents, Wed Nov 11 2026. No macro, syntax, notation, axiom, sorry.
-/
import Derived.Test.YtjnfehajgogjiaaChecked
import GoSem.Claim
import GoSem.ClaimJoined
import GoSem.ClaimMapViews
import Derived.JoinedTies
import Derived.KernelRfl
namespace Go.Proofs.Ytjnfehajgogjiaa
/- THE CELL 'sum', in the pinned program and in every row, IS THE sha256 OF THE DUMP (.gsa) THAT YtjnfehajgogjiaaProg.lean LOADS. Nothing in Lean hashes anything: it is a label: what it is worth is what the hold of that sum in a sandbox is worth. -/
noncomputable def Try.pinned : Pinned := { name := "ytjnfehajgogjiaa", sum := "fe17212b3be450f49544a0bf1a7d94b9bb42761700cbcc66dda2cf16da3ca1a3", checked := Try.checked }
namespace Rows
def none {H : Type} : Left H := { results := [], args := [] }

/-- 'laws.FnExactLevelParams': WHATEVER THE INPUT: true; the input reads as it did. -/
def fnExactLevelParamsSpec : ChangeSpec := { name := "fnExactLevelParams", fn := fun _ => fun
  | [d] => { results := [.lit (.bool true)], args := [d] }
  | _ => none }
def fnExactLevelParamsRow : OpenClaim := { program := "ytjnfehajgogjiaa", sum := "fe17212b3be450f49544a0bf1a7d94b9bb42761700cbcc66dda2cf16da3ca1a3", func := "loop.example/g00963/laws.FnExactLevelParams", spec := "fnExactLevelParams", inPlace := ["internal/bytealg.IndexByteString"], apart := false }
def FnExactLevelParamsSaid : Prop := fnExactLevelParamsRow.holds Try.pinned (OpenSpec.ofChange fnExactLevelParamsSpec)

/-- ITS FALSE NEIGHBOUR: 'it returns false'. Refute it at one input. -/
def fnExactLevelParamsWrong : ChangeSpec := { name := "fnExactLevelParams", fn := fun _ => fun
  | [d] => { results := [.lit (.bool false)], args := [d] }
  | _ => none }
def FnExactLevelParamsWrongFalsely : Prop := fnExactLevelParamsRow.holds Try.pinned (OpenSpec.ofChange fnExactLevelParamsWrong)

/-- 'laws.FnExactLevelUps': WHATEVER THE INPUT: true; the input reads as it did. -/
def fnExactLevelUpsSpec : ChangeSpec := { name := "fnExactLevelUps", fn := fun _ => fun
  | [d] => { results := [.lit (.bool true)], args := [d] }
  | _ => none }
def fnExactLevelUpsRow : OpenClaim := { program := "ytjnfehajgogjiaa", sum := "fe17212b3be450f49544a0bf1a7d94b9bb42761700cbcc66dda2cf16da3ca1a3", func := "loop.example/g00963/laws.FnExactLevelUps", spec := "fnExactLevelUps", inPlace := ["internal/bytealg.CountString", "internal/bytealg.IndexByteString", "internal/bytealg.IndexString"], named := ["internal/bytealg.MaxLen"], apart := false }
def FnExactLevelUpsSaid : Prop := fnExactLevelUpsRow.holds Try.pinned (OpenSpec.ofChange fnExactLevelUpsSpec)

/-- ITS FALSE NEIGHBOUR: 'it returns false'. Refute it at one input. -/
def fnExactLevelUpsWrong : ChangeSpec := { name := "fnExactLevelUps", fn := fun _ => fun
  | [d] => { results := [.lit (.bool false)], args := [d] }
  | _ => none }
def FnExactLevelUpsWrongFalsely : Prop := fnExactLevelUpsRow.holds Try.pinned (OpenSpec.ofChange fnExactLevelUpsWrong)

/-- 'laws.FnExactLevelPut': WHATEVER THE INPUT: true; the input reads as it did. -/
def fnExactLevelPutSpec : ChangeSpec := { name := "fnExactLevelPut", fn := fun _ => fun
  | [d1, d2] => { results := [.lit (.bool true)], args := [d1, d2] }
  | _ => none }
def fnExactLevelPutRow : OpenClaim := { program := "ytjnfehajgogjiaa", sum := "fe17212b3be450f49544a0bf1a7d94b9bb42761700cbcc66dda2cf16da3ca1a3", func := "loop.example/g00963/laws.FnExactLevelPut", spec := "fnExactLevelPut", inPlace := ["internal/bytealg.IndexByteString"], unfollowed := true, recurses := true, apart := false }
def FnExactLevelPutSaid : Prop := fnExactLevelPutRow.holds Try.pinned (OpenSpec.ofChange fnExactLevelPutSpec)

/-- ITS FALSE NEIGHBOUR: 'it returns false'. Refute it at one input. -/
def fnExactLevelPutWrong : ChangeSpec := { name := "fnExactLevelPut", fn := fun _ => fun
  | [d1, d2] => { results := [.lit (.bool false)], args := [d1, d2] }
  | _ => none }
def FnExactLevelPutWrongFalsely : Prop := fnExactLevelPutRow.holds Try.pinned (OpenSpec.ofChange fnExactLevelPutWrong)

/-- 'laws.FnExactLevelAt': WHATEVER THE INPUT: true; the input reads as it did. -/
def fnExactLevelAtSpec : ChangeSpec := { name := "fnExactLevelAt", fn := fun _ => fun
  | [d1, d2] => { results := [.lit (.bool true)], args := [d1, d2] }
  | _ => none }
def fnExactLevelAtRow : OpenClaim := { program := "ytjnfehajgogjiaa", sum := "fe17212b3be450f49544a0bf1a7d94b9bb42761700cbcc66dda2cf16da3ca1a3", func := "loop.example/g00963/laws.FnExactLevelAt", spec := "fnExactLevelAt", inPlace := ["internal/bytealg.IndexByteString"], unfollowed := true, recurses := true, apart := false }
def FnExactLevelAtSaid : Prop := fnExactLevelAtRow.holds Try.pinned (OpenSpec.ofChange fnExactLevelAtSpec)

/-- ITS FALSE NEIGHBOUR: 'it returns false'. Refute it at one input. -/
def fnExactLevelAtWrong : ChangeSpec := { name := "fnExactLevelAt", fn := fun _ => fun
  | [d1, d2] => { results := [.lit (.bool false)], args := [d1, d2] }
  | _ => none }
def FnExactLevelAtWrongFalsely : Prop := fnExactLevelAtRow.holds Try.pinned (OpenSpec.ofChange fnExactLevelAtWrong)

/-- 'laws.FnExactLevelLe': WHATEVER THE INPUT: true; the input reads as it did. -/
def fnExactLevelLeSpec : ChangeSpec := { name := "fnExactLevelLe", fn := fun _ => fun
  | [d1, d2] => { results := [.lit (.bool true)], args := [d1, d2] }
  | _ => none }
def fnExactLevelLeRow : OpenClaim := { program := "ytjnfehajgogjiaa", sum := "fe17212b3be450f49544a0bf1a7d94b9bb42761700cbcc66dda2cf16da3ca1a3", func := "loop.example/g00963/laws.FnExactLevelLe", spec := "fnExactLevelLe", inPlace := ["internal/bytealg.CountString", "internal/bytealg.IndexByteString", "internal/bytealg.IndexString"], recurses := true, named := ["internal/bytealg.MaxLen"], apart := false }
def FnExactLevelLeSaid : Prop := fnExactLevelLeRow.holds Try.pinned (OpenSpec.ofChange fnExactLevelLeSpec)

/-- ITS FALSE NEIGHBOUR: 'it returns false'. Refute it at one input. -/
def fnExactLevelLeWrong : ChangeSpec := { name := "fnExactLevelLe", fn := fun _ => fun
  | [d1, d2] => { results := [.lit (.bool false)], args := [d1, d2] }
  | _ => none }
def FnExactLevelLeWrongFalsely : Prop := fnExactLevelLeRow.holds Try.pinned (OpenSpec.ofChange fnExactLevelLeWrong)

/-- 'laws.FnExactLevelAbove': WHATEVER THE INPUT: true; the input reads as it did. -/
def fnExactLevelAboveSpec : ChangeSpec := { name := "fnExactLevelAbove", fn := fun _ => fun
  | [d] => { results := [.lit (.bool true)], args := [d] }
  | _ => none }
def fnExactLevelAboveRow : OpenClaim := { program := "ytjnfehajgogjiaa", sum := "fe17212b3be450f49544a0bf1a7d94b9bb42761700cbcc66dda2cf16da3ca1a3", func := "loop.example/g00963/laws.FnExactLevelAbove", spec := "fnExactLevelAbove", inPlace := ["internal/bytealg.CountString", "internal/bytealg.IndexByteString", "internal/bytealg.IndexString"], recurses := true, named := ["internal/bytealg.MaxLen"], apart := false }
def FnExactLevelAboveSaid : Prop := fnExactLevelAboveRow.holds Try.pinned (OpenSpec.ofChange fnExactLevelAboveSpec)

/-- ITS FALSE NEIGHBOUR: 'it returns false'. Refute it at one input. -/
def fnExactLevelAboveWrong : ChangeSpec := { name := "fnExactLevelAbove", fn := fun _ => fun
  | [d] => { results := [.lit (.bool false)], args := [d] }
  | _ => none }
def FnExactLevelAboveWrongFalsely : Prop := fnExactLevelAboveRow.holds Try.pinned (OpenSpec.ofChange fnExactLevelAboveWrong)

/-- 'laws.FnExactLevelSame': WHATEVER THE INPUT: true; the input reads as it did. -/
def fnExactLevelSameSpec : ChangeSpec := { name := "fnExactLevelSame", fn := fun _ => fun
  | [d1, d2] => { results := [.lit (.bool true)], args := [d1, d2] }
  | _ => none }
def fnExactLevelSameRow : OpenClaim := { program := "ytjnfehajgogjiaa", sum := "fe17212b3be450f49544a0bf1a7d94b9bb42761700cbcc66dda2cf16da3ca1a3", func := "loop.example/g00963/laws.FnExactLevelSame", spec := "fnExactLevelSame", inPlace := ["internal/bytealg.CountString", "internal/bytealg.IndexByteString", "internal/bytealg.IndexString"], recurses := true, named := ["internal/bytealg.MaxLen"], apart := false }
def FnExactLevelSameSaid : Prop := fnExactLevelSameRow.holds Try.pinned (OpenSpec.ofChange fnExactLevelSameSpec)

/-- ITS FALSE NEIGHBOUR: 'it returns false'. Refute it at one input. -/
def fnExactLevelSameWrong : ChangeSpec := { name := "fnExactLevelSame", fn := fun _ => fun
  | [d1, d2] => { results := [.lit (.bool false)], args := [d1, d2] }
  | _ => none }
def FnExactLevelSameWrongFalsely : Prop := fnExactLevelSameRow.holds Try.pinned (OpenSpec.ofChange fnExactLevelSameWrong)

/-- 'laws.FnExactLevelZero': WHATEVER THE INPUT: true; the input reads as it did. -/
def fnExactLevelZeroSpec : ChangeSpec := { name := "fnExactLevelZero", fn := fun _ => fun
  | [d] => { results := [.lit (.bool true)], args := [d] }
  | _ => none }
def fnExactLevelZeroRow : OpenClaim := { program := "ytjnfehajgogjiaa", sum := "fe17212b3be450f49544a0bf1a7d94b9bb42761700cbcc66dda2cf16da3ca1a3", func := "loop.example/g00963/laws.FnExactLevelZero", spec := "fnExactLevelZero", inPlace := ["internal/bytealg.CountString", "internal/bytealg.IndexByteString", "internal/bytealg.IndexString"], recurses := true, named := ["internal/bytealg.MaxLen"], apart := false }
def FnExactLevelZeroSaid : Prop := fnExactLevelZeroRow.holds Try.pinned (OpenSpec.ofChange fnExactLevelZeroSpec)

/-- ITS FALSE NEIGHBOUR: 'it returns false'. Refute it at one input. -/
def fnExactLevelZeroWrong : ChangeSpec := { name := "fnExactLevelZero", fn := fun _ => fun
  | [d] => { results := [.lit (.bool false)], args := [d] }
  | _ => none }
def FnExactLevelZeroWrongFalsely : Prop := fnExactLevelZeroRow.holds Try.pinned (OpenSpec.ofChange fnExactLevelZeroWrong)

/-- 'laws.FnExactLevelWitness': WHATEVER THE INPUT: true; the input reads as it did. -/
def fnExactLevelWitnessSpec : ChangeSpec := { name := "fnExactLevelWitness", fn := fun _ => fun
  | [d1, d2] => { results := [.lit (.bool true)], args := [d1, d2] }
  | _ => none }
def fnExactLevelWitnessRow : OpenClaim := { program := "ytjnfehajgogjiaa", sum := "fe17212b3be450f49544a0bf1a7d94b9bb42761700cbcc66dda2cf16da3ca1a3", func := "loop.example/g00963/laws.FnExactLevelWitness", spec := "fnExactLevelWitness", inPlace := ["internal/bytealg.CountString", "internal/bytealg.IndexByteString", "internal/bytealg.IndexString"], recurses := true, named := ["internal/bytealg.MaxLen"], apart := false }
def FnExactLevelWitnessSaid : Prop := fnExactLevelWitnessRow.holds Try.pinned (OpenSpec.ofChange fnExactLevelWitnessSpec)

/-- ITS FALSE NEIGHBOUR: 'it returns false'. Refute it at one input. -/
def fnExactLevelWitnessWrong : ChangeSpec := { name := "fnExactLevelWitness", fn := fun _ => fun
  | [d1, d2] => { results := [.lit (.bool false)], args := [d1, d2] }
  | _ => none }
def FnExactLevelWitnessWrongFalsely : Prop := fnExactLevelWitnessRow.holds Try.pinned (OpenSpec.ofChange fnExactLevelWitnessWrong)

/-- 'laws.FnLevels': WHATEVER THE INPUT: true; the input reads as it did. -/
def fnLevelsSpec : ChangeSpec := { name := "fnLevels", fn := fun _ => fun
  | [d] => { results := [.lit (.bool true)], args := [d] }
  | _ => none }
def fnLevelsRow : OpenClaim := { program := "ytjnfehajgogjiaa", sum := "fe17212b3be450f49544a0bf1a7d94b9bb42761700cbcc66dda2cf16da3ca1a3", func := "loop.example/g00963/laws.FnLevels", spec := "fnLevels", inPlace := ["internal/bytealg.IndexByteString", "internal/bytealg.CountString", "internal/bytealg.IndexString"], unfollowed := true, recurses := true, named := ["internal/bytealg.MaxLen"], apart := false }
def FnLevelsSaid : Prop := fnLevelsRow.holds Try.pinned (OpenSpec.ofChange fnLevelsSpec)

/-- ITS FALSE NEIGHBOUR: 'it returns false'. Refute it at one input. -/
def fnLevelsWrong : ChangeSpec := { name := "fnLevels", fn := fun _ => fun
  | [d] => { results := [.lit (.bool false)], args := [d] }
  | _ => none }
def FnLevelsWrongFalsely : Prop := fnLevelsRow.holds Try.pinned (OpenSpec.ofChange fnLevelsWrong)

/-- 'laws.FnLevelValues': WHATEVER THE INPUT: true; the input reads as it did. -/
def fnLevelValuesSpec : ChangeSpec := { name := "fnLevelValues", fn := fun _ => fun
  | [d] => { results := [.lit (.bool true)], args := [d] }
  | _ => none }
def fnLevelValuesRow : OpenClaim := { program := "ytjnfehajgogjiaa", sum := "fe17212b3be450f49544a0bf1a7d94b9bb42761700cbcc66dda2cf16da3ca1a3", func := "loop.example/g00963/laws.FnLevelValues", spec := "fnLevelValues", inPlace := ["internal/bytealg.IndexByteString", "internal/bytealg.CountString", "internal/bytealg.IndexString"], unfollowed := true, recurses := true, named := ["internal/bytealg.MaxLen"], apart := false }
def FnLevelValuesSaid : Prop := fnLevelValuesRow.holds Try.pinned (OpenSpec.ofChange fnLevelValuesSpec)

/-- ITS FALSE NEIGHBOUR: 'it returns false'. Refute it at one input. -/
def fnLevelValuesWrong : ChangeSpec := { name := "fnLevelValues", fn := fun _ => fun
  | [d] => { results := [.lit (.bool false)], args := [d] }
  | _ => none }
def FnLevelValuesWrongFalsely : Prop := fnLevelValuesRow.holds Try.pinned (OpenSpec.ofChange fnLevelValuesWrong)

/-- 'laws.FnLevelOrder': WHATEVER THE INPUT: true; the input reads as it did. -/
def fnLevelOrderSpec : ChangeSpec := { name := "fnLevelOrder", fn := fun _ => fun
  | [d] => { results := [.lit (.bool true)], args := [d] }
  | _ => none }
def fnLevelOrderRow : OpenClaim := { program := "ytjnfehajgogjiaa", sum := "fe17212b3be450f49544a0bf1a7d94b9bb42761700cbcc66dda2cf16da3ca1a3", func := "loop.example/g00963/laws.FnLevelOrder", spec := "fnLevelOrder", inPlace := ["internal/bytealg.CountString", "internal/bytealg.IndexByteString", "internal/bytealg.IndexString"], unfollowed := true, recurses := true, named := ["internal/bytealg.MaxLen"], apart := false }
def FnLevelOrderSaid : Prop := fnLevelOrderRow.holds Try.pinned (OpenSpec.ofChange fnLevelOrderSpec)

/-- ITS FALSE NEIGHBOUR: 'it returns false'. Refute it at one input. -/
def fnLevelOrderWrong : ChangeSpec := { name := "fnLevelOrder", fn := fun _ => fun
  | [d] => { results := [.lit (.bool false)], args := [d] }
  | _ => none }
def FnLevelOrderWrongFalsely : Prop := fnLevelOrderRow.holds Try.pinned (OpenSpec.ofChange fnLevelOrderWrong)

/- THE SECOND FORM. 'bulk': how many values and letters a reading holds, each counted each time it is reached (what is shared counts as often as it is met; a slice's spare places count too). A statement '..UptoSaid' is the law's where the arguments, and the package variables that the reading takes, are together of bulk at most 1048576: NARROWER than '..Said'. Prove '..Said' where nothing that the law and all that it calls make is longer than what came in: it says more and counts as full. Else prove '..UptoSaid'. A law counts once. -/
mutual
def uptoBulk {H : Type} : DataW H → Nat
  | .lit (.string bytes) => bytes.length + 1
  | .lit _ => 1
  | .nil => 1
  | .ptr d => uptoBulk d + 1
  | .slice elems spare => uptoBulkAll elems + uptoBulkAll spare + 1
  | .agg parts => uptoBulkAll parts + 1
  | .iface _ d => uptoBulk d + 1
  | .map entries => uptoBulkEntries entries + 1
  | .held _ => 1
def uptoBulkAll {H : Type} : List (DataW H) → Nat
  | [] => 0
  | d :: r => uptoBulk d + uptoBulkAll r
def uptoBulkEntries {H : Type} : List (Lit × DataW H) → Nat
  | [] => 0
  | x :: r => uptoBulkEntry x + uptoBulkEntries r
def uptoBulkEntry {H : Type} : Lit × DataW H → Nat
  | (.string bytes, d) => bytes.length + uptoBulk d + 1
  | (_, d) => uptoBulk d + 1
 end
def uptoSmall : (H : Type) → List (DataW H) → Bool := fun _ ds => decide (uptoBulkAll ds ≤ 1048576)
def OpenSpec.upto (s : _root_.Go.ChangeSpec) : _root_.Go.OpenSpec := { _root_.Go.OpenSpec.ofChange s with cond := some uptoSmall }

/-- 'laws.FnExactLevelParams', WHERE WHAT IT READS IS OF BULK AT MOST 1048576: true; the input reads as it did. -/
def fnExactLevelParamsUptoRow : OpenClaim := { program := "ytjnfehajgogjiaa", sum := "fe17212b3be450f49544a0bf1a7d94b9bb42761700cbcc66dda2cf16da3ca1a3", func := "loop.example/g00963/laws.FnExactLevelParams", spec := "fnExactLevelParams", inPlace := ["internal/bytealg.IndexByteString"], apart := false, narrowed := true }
def FnExactLevelParamsUptoSaid : Prop := fnExactLevelParamsUptoRow.holds Try.pinned (OpenSpec.upto fnExactLevelParamsSpec)

/-- 'laws.FnExactLevelUps', WHERE WHAT IT READS IS OF BULK AT MOST 1048576: true; the input reads as it did. -/
def fnExactLevelUpsUptoRow : OpenClaim := { program := "ytjnfehajgogjiaa", sum := "fe17212b3be450f49544a0bf1a7d94b9bb42761700cbcc66dda2cf16da3ca1a3", func := "loop.example/g00963/laws.FnExactLevelUps", spec := "fnExactLevelUps", inPlace := ["internal/bytealg.CountString", "internal/bytealg.IndexByteString", "internal/bytealg.IndexString"], named := ["internal/bytealg.MaxLen"], apart := false, narrowed := true }
def FnExactLevelUpsUptoSaid : Prop := fnExactLevelUpsUptoRow.holds Try.pinned (OpenSpec.upto fnExactLevelUpsSpec)

/-- 'laws.FnExactLevelPut', WHERE WHAT IT READS IS OF BULK AT MOST 1048576: true; the input reads as it did. -/
def fnExactLevelPutUptoRow : OpenClaim := { program := "ytjnfehajgogjiaa", sum := "fe17212b3be450f49544a0bf1a7d94b9bb42761700cbcc66dda2cf16da3ca1a3", func := "loop.example/g00963/laws.FnExactLevelPut", spec := "fnExactLevelPut", inPlace := ["internal/bytealg.IndexByteString"], unfollowed := true, recurses := true, apart := false, narrowed := true }
def FnExactLevelPutUptoSaid : Prop := fnExactLevelPutUptoRow.holds Try.pinned (OpenSpec.upto fnExactLevelPutSpec)

/-- 'laws.FnExactLevelAt', WHERE WHAT IT READS IS OF BULK AT MOST 1048576: true; the input reads as it did. -/
def fnExactLevelAtUptoRow : OpenClaim := { program := "ytjnfehajgogjiaa", sum := "fe17212b3be450f49544a0bf1a7d94b9bb42761700cbcc66dda2cf16da3ca1a3", func := "loop.example/g00963/laws.FnExactLevelAt", spec := "fnExactLevelAt", inPlace := ["internal/bytealg.IndexByteString"], unfollowed := true, recurses := true, apart := false, narrowed := true }
def FnExactLevelAtUptoSaid : Prop := fnExactLevelAtUptoRow.holds Try.pinned (OpenSpec.upto fnExactLevelAtSpec)

/-- 'laws.FnExactLevelLe', WHERE WHAT IT READS IS OF BULK AT MOST 1048576: true; the input reads as it did. -/
def fnExactLevelLeUptoRow : OpenClaim := { program := "ytjnfehajgogjiaa", sum := "fe17212b3be450f49544a0bf1a7d94b9bb42761700cbcc66dda2cf16da3ca1a3", func := "loop.example/g00963/laws.FnExactLevelLe", spec := "fnExactLevelLe", inPlace := ["internal/bytealg.CountString", "internal/bytealg.IndexByteString", "internal/bytealg.IndexString"], recurses := true, named := ["internal/bytealg.MaxLen"], apart := false, narrowed := true }
def FnExactLevelLeUptoSaid : Prop := fnExactLevelLeUptoRow.holds Try.pinned (OpenSpec.upto fnExactLevelLeSpec)

/-- 'laws.FnExactLevelAbove', WHERE WHAT IT READS IS OF BULK AT MOST 1048576: true; the input reads as it did. -/
def fnExactLevelAboveUptoRow : OpenClaim := { program := "ytjnfehajgogjiaa", sum := "fe17212b3be450f49544a0bf1a7d94b9bb42761700cbcc66dda2cf16da3ca1a3", func := "loop.example/g00963/laws.FnExactLevelAbove", spec := "fnExactLevelAbove", inPlace := ["internal/bytealg.CountString", "internal/bytealg.IndexByteString", "internal/bytealg.IndexString"], recurses := true, named := ["internal/bytealg.MaxLen"], apart := false, narrowed := true }
def FnExactLevelAboveUptoSaid : Prop := fnExactLevelAboveUptoRow.holds Try.pinned (OpenSpec.upto fnExactLevelAboveSpec)

/-- 'laws.FnExactLevelSame', WHERE WHAT IT READS IS OF BULK AT MOST 1048576: true; the input reads as it did. -/
def fnExactLevelSameUptoRow : OpenClaim := { program := "ytjnfehajgogjiaa", sum := "fe17212b3be450f49544a0bf1a7d94b9bb42761700cbcc66dda2cf16da3ca1a3", func := "loop.example/g00963/laws.FnExactLevelSame", spec := "fnExactLevelSame", inPlace := ["internal/bytealg.CountString", "internal/bytealg.IndexByteString", "internal/bytealg.IndexString"], recurses := true, named := ["internal/bytealg.MaxLen"], apart := false, narrowed := true }
def FnExactLevelSameUptoSaid : Prop := fnExactLevelSameUptoRow.holds Try.pinned (OpenSpec.upto fnExactLevelSameSpec)

/-- 'laws.FnExactLevelZero', WHERE WHAT IT READS IS OF BULK AT MOST 1048576: true; the input reads as it did. -/
def fnExactLevelZeroUptoRow : OpenClaim := { program := "ytjnfehajgogjiaa", sum := "fe17212b3be450f49544a0bf1a7d94b9bb42761700cbcc66dda2cf16da3ca1a3", func := "loop.example/g00963/laws.FnExactLevelZero", spec := "fnExactLevelZero", inPlace := ["internal/bytealg.CountString", "internal/bytealg.IndexByteString", "internal/bytealg.IndexString"], recurses := true, named := ["internal/bytealg.MaxLen"], apart := false, narrowed := true }
def FnExactLevelZeroUptoSaid : Prop := fnExactLevelZeroUptoRow.holds Try.pinned (OpenSpec.upto fnExactLevelZeroSpec)

/-- 'laws.FnExactLevelWitness', WHERE WHAT IT READS IS OF BULK AT MOST 1048576: true; the input reads as it did. -/
def fnExactLevelWitnessUptoRow : OpenClaim := { program := "ytjnfehajgogjiaa", sum := "fe17212b3be450f49544a0bf1a7d94b9bb42761700cbcc66dda2cf16da3ca1a3", func := "loop.example/g00963/laws.FnExactLevelWitness", spec := "fnExactLevelWitness", inPlace := ["internal/bytealg.CountString", "internal/bytealg.IndexByteString", "internal/bytealg.IndexString"], recurses := true, named := ["internal/bytealg.MaxLen"], apart := false, narrowed := true }
def FnExactLevelWitnessUptoSaid : Prop := fnExactLevelWitnessUptoRow.holds Try.pinned (OpenSpec.upto fnExactLevelWitnessSpec)

/-- 'laws.FnLevels', WHERE WHAT IT READS IS OF BULK AT MOST 1048576: true; the input reads as it did. -/
def fnLevelsUptoRow : OpenClaim := { program := "ytjnfehajgogjiaa", sum := "fe17212b3be450f49544a0bf1a7d94b9bb42761700cbcc66dda2cf16da3ca1a3", func := "loop.example/g00963/laws.FnLevels", spec := "fnLevels", inPlace := ["internal/bytealg.IndexByteString", "internal/bytealg.CountString", "internal/bytealg.IndexString"], unfollowed := true, recurses := true, named := ["internal/bytealg.MaxLen"], apart := false, narrowed := true }
def FnLevelsUptoSaid : Prop := fnLevelsUptoRow.holds Try.pinned (OpenSpec.upto fnLevelsSpec)

/-- 'laws.FnLevelValues', WHERE WHAT IT READS IS OF BULK AT MOST 1048576: true; the input reads as it did. -/
def fnLevelValuesUptoRow : OpenClaim := { program := "ytjnfehajgogjiaa", sum := "fe17212b3be450f49544a0bf1a7d94b9bb42761700cbcc66dda2cf16da3ca1a3", func := "loop.example/g00963/laws.FnLevelValues", spec := "fnLevelValues", inPlace := ["internal/bytealg.IndexByteString", "internal/bytealg.CountString", "internal/bytealg.IndexString"], unfollowed := true, recurses := true, named := ["internal/bytealg.MaxLen"], apart := false, narrowed := true }
def FnLevelValuesUptoSaid : Prop := fnLevelValuesUptoRow.holds Try.pinned (OpenSpec.upto fnLevelValuesSpec)

/-- 'laws.FnLevelOrder', WHERE WHAT IT READS IS OF BULK AT MOST 1048576: true; the input reads as it did. -/
def fnLevelOrderUptoRow : OpenClaim := { program := "ytjnfehajgogjiaa", sum := "fe17212b3be450f49544a0bf1a7d94b9bb42761700cbcc66dda2cf16da3ca1a3", func := "loop.example/g00963/laws.FnLevelOrder", spec := "fnLevelOrder", inPlace := ["internal/bytealg.CountString", "internal/bytealg.IndexByteString", "internal/bytealg.IndexString"], unfollowed := true, recurses := true, named := ["internal/bytealg.MaxLen"], apart := false, narrowed := true }
def FnLevelOrderUptoSaid : Prop := fnLevelOrderUptoRow.holds Try.pinned (OpenSpec.upto fnLevelOrderSpec)

end Rows
end Go.Proofs.Ytjnfehajgogjiaa
