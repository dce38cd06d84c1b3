/-
  No cell of these rows narrows 'for every input' (looked for: loops, veiled, ifaces, maps, wideKeys, modest, calm, conditions, laid).
  DERIVED. THE GIVEN ROWS OF THIS SEAT. 15 by the template 'for every input the law returns true; each argument reads behind the call as it read before'; 0 by the template 'total and deterministic' (their statements: YtoelfgkigbfieaaTotals.lean).
  GIVEN WITH THE SEED: the statements are not yours to turn. If you find one false, say at which input.
  Laid BY PROGRAM, IN A SANDBOX (cutbox-rows.mjs): the forced cells as the released guide's own fill.sh prints them over the translation 87f227abe60285da… (all of the seat's roots in one cut). By AI agents, Wed Nov 11 2026. No macro, syntax, notation, axiom, sorry.
-/
import Derived.Test.YtoelfgkigbfieaaChecked
import GoSem.Claim
import GoSem.ClaimJoined
import GoSem.ClaimMapViews
import Derived.JoinedTies
import Derived.KernelRfl
namespace Go.Proofs.Ytoelfgkigbfieaa
/- THE CELL 'sum', in the pinned program and in every row, IS THE sha256 OF THE DUMP (.gsa) THAT YtoelfgkigbfieaaProg.lean LOADS. Nothing in Lean hashes anything: it is a label: what it is worth is what the hold of that sum in a sandbox is worth. -/
noncomputable def Try.pinned : Pinned := { name := "ytoelfgkigbfieaa", sum := "87f227abe60285da80900c21544e49c996a0c12b976be651b8280771805a9d1b", checked := Try.checked }
namespace Rows
def none {H : Type} : Left H := { results := [], args := [] }

/-- 'laws.FnExactConstants': WHATEVER THE INPUT: true; the input reads as it did. -/
def fnExactConstantsSpec : ChangeSpec := { name := "fnExactConstants", fn := fun _ => fun
  | [] => { results := [.lit (.bool true)], args := [] }
  | _ => none }
def fnExactConstantsRow : OpenClaim := { program := "ytoelfgkigbfieaa", sum := "87f227abe60285da80900c21544e49c996a0c12b976be651b8280771805a9d1b", func := "loop.example/paling/laws.FnExactConstants", spec := "fnExactConstants", apart := false }
def FnExactConstantsSaid : Prop := fnExactConstantsRow.holds Try.pinned (OpenSpec.ofChange fnExactConstantsSpec)

/-- ITS FALSE NEIGHBOUR: 'it returns false'. Refute it at one input. -/
def fnExactConstantsWrong : ChangeSpec := { name := "fnExactConstants", fn := fun _ => fun
  | [] => { results := [.lit (.bool false)], args := [] }
  | _ => none }
def FnExactConstantsWrongFalsely : Prop := fnExactConstantsRow.holds Try.pinned (OpenSpec.ofChange fnExactConstantsWrong)

/-- 'laws.FnExactSumOf': WHATEVER THE INPUT: true; the input reads as it did. -/
def fnExactSumOfSpec : ChangeSpec := { name := "fnExactSumOf", fn := fun _ => fun
  | [d] => { results := [.lit (.bool true)], args := [d] }
  | _ => none }
def fnExactSumOfRow : OpenClaim := { program := "ytoelfgkigbfieaa", sum := "87f227abe60285da80900c21544e49c996a0c12b976be651b8280771805a9d1b", func := "loop.example/paling/laws.FnExactSumOf", spec := "fnExactSumOf", unfollowed := true, recurses := true, apart := false }
def FnExactSumOfSaid : Prop := fnExactSumOfRow.holds Try.pinned (OpenSpec.ofChange fnExactSumOfSpec)

/-- ITS FALSE NEIGHBOUR: 'it returns false'. Refute it at one input. -/
def fnExactSumOfWrong : ChangeSpec := { name := "fnExactSumOf", fn := fun _ => fun
  | [d] => { results := [.lit (.bool false)], args := [d] }
  | _ => none }
def FnExactSumOfWrongFalsely : Prop := fnExactSumOfRow.holds Try.pinned (OpenSpec.ofChange fnExactSumOfWrong)

/-- 'laws.FnExactXorOf': WHATEVER THE INPUT: true; the input reads as it did. -/
def fnExactXorOfSpec : ChangeSpec := { name := "fnExactXorOf", fn := fun _ => fun
  | [d1, d2] => { results := [.lit (.bool true)], args := [d1, d2] }
  | _ => none }
def fnExactXorOfRow : OpenClaim := { program := "ytoelfgkigbfieaa", sum := "87f227abe60285da80900c21544e49c996a0c12b976be651b8280771805a9d1b", func := "loop.example/paling/laws.FnExactXorOf", spec := "fnExactXorOf", unfollowed := true, recurses := true, apart := false }
def FnExactXorOfSaid : Prop := fnExactXorOfRow.holds Try.pinned (OpenSpec.ofChange fnExactXorOfSpec)

/-- ITS FALSE NEIGHBOUR: 'it returns false'. Refute it at one input. -/
def fnExactXorOfWrong : ChangeSpec := { name := "fnExactXorOf", fn := fun _ => fun
  | [d1, d2] => { results := [.lit (.bool false)], args := [d1, d2] }
  | _ => none }
def FnExactXorOfWrongFalsely : Prop := fnExactXorOfRow.holds Try.pinned (OpenSpec.ofChange fnExactXorOfWrong)

/-- 'laws.FnSumMost': WHATEVER THE INPUT: true; the input reads as it did. -/
def fnSumMostSpec : ChangeSpec := { name := "fnSumMost", fn := fun _ => fun
  | [d] => { results := [.lit (.bool true)], args := [d] }
  | _ => none }
def fnSumMostRow : OpenClaim := { program := "ytoelfgkigbfieaa", sum := "87f227abe60285da80900c21544e49c996a0c12b976be651b8280771805a9d1b", func := "loop.example/paling/laws.FnSumMost", spec := "fnSumMost", unfollowed := true, recurses := true, apart := false }
def FnSumMostSaid : Prop := fnSumMostRow.holds Try.pinned (OpenSpec.ofChange fnSumMostSpec)

/-- ITS FALSE NEIGHBOUR: 'it returns false'. Refute it at one input. -/
def fnSumMostWrong : ChangeSpec := { name := "fnSumMost", fn := fun _ => fun
  | [d] => { results := [.lit (.bool false)], args := [d] }
  | _ => none }
def FnSumMostWrongFalsely : Prop := fnSumMostRow.holds Try.pinned (OpenSpec.ofChange fnSumMostWrong)

/-- 'laws.FnSumOne': WHATEVER THE INPUT: true; the input reads as it did. -/
def fnSumOneSpec : ChangeSpec := { name := "fnSumOne", fn := fun _ => fun
  | [d1, d2] => { results := [.lit (.bool true)], args := [d1, d2] }
  | _ => none }
def fnSumOneRow : OpenClaim := { program := "ytoelfgkigbfieaa", sum := "87f227abe60285da80900c21544e49c996a0c12b976be651b8280771805a9d1b", func := "loop.example/paling/laws.FnSumOne", spec := "fnSumOne", unfollowed := true, recurses := true, apart := false }
def FnSumOneSaid : Prop := fnSumOneRow.holds Try.pinned (OpenSpec.ofChange fnSumOneSpec)

/-- ITS FALSE NEIGHBOUR: 'it returns false'. Refute it at one input. -/
def fnSumOneWrong : ChangeSpec := { name := "fnSumOne", fn := fun _ => fun
  | [d1, d2] => { results := [.lit (.bool false)], args := [d1, d2] }
  | _ => none }
def FnSumOneWrongFalsely : Prop := fnSumOneRow.holds Try.pinned (OpenSpec.ofChange fnSumOneWrong)

/-- 'laws.FnXorBack': WHATEVER THE INPUT: true; the input reads as it did. -/
def fnXorBackSpec : ChangeSpec := { name := "fnXorBack", fn := fun _ => fun
  | [d] => { results := [.lit (.bool true)], args := [d] }
  | _ => none }
def fnXorBackRow : OpenClaim := { program := "ytoelfgkigbfieaa", sum := "87f227abe60285da80900c21544e49c996a0c12b976be651b8280771805a9d1b", func := "loop.example/paling/laws.FnXorBack", spec := "fnXorBack", unfollowed := true, recurses := true, apart := false }
def FnXorBackSaid : Prop := fnXorBackRow.holds Try.pinned (OpenSpec.ofChange fnXorBackSpec)

/-- ITS FALSE NEIGHBOUR: 'it returns false'. Refute it at one input. -/
def fnXorBackWrong : ChangeSpec := { name := "fnXorBack", fn := fun _ => fun
  | [d] => { results := [.lit (.bool false)], args := [d] }
  | _ => none }
def FnXorBackWrongFalsely : Prop := fnXorBackRow.holds Try.pinned (OpenSpec.ofChange fnXorBackWrong)

/-- 'laws.FnXorThree': WHATEVER THE INPUT: true; the input reads as it did. -/
def fnXorThreeSpec : ChangeSpec := { name := "fnXorThree", fn := fun _ => fun
  | [d1, d2] => { results := [.lit (.bool true)], args := [d1, d2] }
  | _ => none }
def fnXorThreeRow : OpenClaim := { program := "ytoelfgkigbfieaa", sum := "87f227abe60285da80900c21544e49c996a0c12b976be651b8280771805a9d1b", func := "loop.example/paling/laws.FnXorThree", spec := "fnXorThree", unfollowed := true, recurses := true, apart := false }
def FnXorThreeSaid : Prop := fnXorThreeRow.holds Try.pinned (OpenSpec.ofChange fnXorThreeSpec)

/-- ITS FALSE NEIGHBOUR: 'it returns false'. Refute it at one input. -/
def fnXorThreeWrong : ChangeSpec := { name := "fnXorThree", fn := fun _ => fun
  | [d1, d2] => { results := [.lit (.bool false)], args := [d1, d2] }
  | _ => none }
def FnXorThreeWrongFalsely : Prop := fnXorThreeRow.holds Try.pinned (OpenSpec.ofChange fnXorThreeWrong)

/-- 'laws.FnExactMendOf': WHATEVER THE INPUT: true; the input reads as it did. -/
def fnExactMendOfSpec : ChangeSpec := { name := "fnExactMendOf", fn := fun _ => fun
  | [d1, d2, d3] => { results := [.lit (.bool true)], args := [d1, d2, d3] }
  | _ => none }
def fnExactMendOfRow : OpenClaim := { program := "ytoelfgkigbfieaa", sum := "87f227abe60285da80900c21544e49c996a0c12b976be651b8280771805a9d1b", func := "loop.example/paling/laws.FnExactMendOf", spec := "fnExactMendOf", unfollowed := true, recurses := true, apart := false }
def FnExactMendOfSaid : Prop := fnExactMendOfRow.holds Try.pinned (OpenSpec.ofChange fnExactMendOfSpec)

/-- ITS FALSE NEIGHBOUR: 'it returns false'. Refute it at one input. -/
def fnExactMendOfWrong : ChangeSpec := { name := "fnExactMendOf", fn := fun _ => fun
  | [d1, d2, d3] => { results := [.lit (.bool false)], args := [d1, d2, d3] }
  | _ => none }
def FnExactMendOfWrongFalsely : Prop := fnExactMendOfRow.holds Try.pinned (OpenSpec.ofChange fnExactMendOfWrong)

/-- 'laws.FnExactParityOf': WHATEVER THE INPUT: true; the input reads as it did. -/
def fnExactParityOfSpec : ChangeSpec := { name := "fnExactParityOf", fn := fun _ => fun
  | [d] => { results := [.lit (.bool true)], args := [d] }
  | _ => none }
def fnExactParityOfRow : OpenClaim := { program := "ytoelfgkigbfieaa", sum := "87f227abe60285da80900c21544e49c996a0c12b976be651b8280771805a9d1b", func := "loop.example/paling/laws.FnExactParityOf", spec := "fnExactParityOf", unfollowed := true, recurses := true, apart := false }
def FnExactParityOfSaid : Prop := fnExactParityOfRow.holds Try.pinned (OpenSpec.ofChange fnExactParityOfSpec)

/-- ITS FALSE NEIGHBOUR: 'it returns false'. Refute it at one input. -/
def fnExactParityOfWrong : ChangeSpec := { name := "fnExactParityOf", fn := fun _ => fun
  | [d] => { results := [.lit (.bool false)], args := [d] }
  | _ => none }
def FnExactParityOfWrongFalsely : Prop := fnExactParityOfRow.holds Try.pinned (OpenSpec.ofChange fnExactParityOfWrong)

/-- 'laws.FnParityMore': WHATEVER THE INPUT: true; the input reads as it did. -/
def fnParityMoreSpec : ChangeSpec := { name := "fnParityMore", fn := fun _ => fun
  | [d1, d2] => { results := [.lit (.bool true)], args := [d1, d2] }
  | _ => none }
def fnParityMoreRow : OpenClaim := { program := "ytoelfgkigbfieaa", sum := "87f227abe60285da80900c21544e49c996a0c12b976be651b8280771805a9d1b", func := "loop.example/paling/laws.FnParityMore", spec := "fnParityMore", unfollowed := true, recurses := true, apart := false }
def FnParityMoreSaid : Prop := fnParityMoreRow.holds Try.pinned (OpenSpec.ofChange fnParityMoreSpec)

/-- ITS FALSE NEIGHBOUR: 'it returns false'. Refute it at one input. -/
def fnParityMoreWrong : ChangeSpec := { name := "fnParityMore", fn := fun _ => fun
  | [d1, d2] => { results := [.lit (.bool false)], args := [d1, d2] }
  | _ => none }
def FnParityMoreWrongFalsely : Prop := fnParityMoreRow.holds Try.pinned (OpenSpec.ofChange fnParityMoreWrong)

/-- 'laws.FnParityNone': WHATEVER THE INPUT: true; the input reads as it did. -/
def fnParityNoneSpec : ChangeSpec := { name := "fnParityNone", fn := fun _ => fun
  | [d] => { results := [.lit (.bool true)], args := [d] }
  | _ => none }
def fnParityNoneRow : OpenClaim := { program := "ytoelfgkigbfieaa", sum := "87f227abe60285da80900c21544e49c996a0c12b976be651b8280771805a9d1b", func := "loop.example/paling/laws.FnParityNone", spec := "fnParityNone", unfollowed := true, recurses := true, apart := false }
def FnParityNoneSaid : Prop := fnParityNoneRow.holds Try.pinned (OpenSpec.ofChange fnParityNoneSpec)

/-- ITS FALSE NEIGHBOUR: 'it returns false'. Refute it at one input. -/
def fnParityNoneWrong : ChangeSpec := { name := "fnParityNone", fn := fun _ => fun
  | [d] => { results := [.lit (.bool false)], args := [d] }
  | _ => none }
def FnParityNoneWrongFalsely : Prop := fnParityNoneRow.holds Try.pinned (OpenSpec.ofChange fnParityNoneWrong)

/-- 'laws.FnMendBack': WHATEVER THE INPUT: true; the input reads as it did. -/
def fnMendBackSpec : ChangeSpec := { name := "fnMendBack", fn := fun _ => fun
  | [d1, d2] => { results := [.lit (.bool true)], args := [d1, d2] }
  | _ => none }
def fnMendBackRow : OpenClaim := { program := "ytoelfgkigbfieaa", sum := "87f227abe60285da80900c21544e49c996a0c12b976be651b8280771805a9d1b", func := "loop.example/paling/laws.FnMendBack", spec := "fnMendBack", unfollowed := true, recurses := true, apart := false }
def FnMendBackSaid : Prop := fnMendBackRow.holds Try.pinned (OpenSpec.ofChange fnMendBackSpec)

/-- ITS FALSE NEIGHBOUR: 'it returns false'. Refute it at one input. -/
def fnMendBackWrong : ChangeSpec := { name := "fnMendBack", fn := fun _ => fun
  | [d1, d2] => { results := [.lit (.bool false)], args := [d1, d2] }
  | _ => none }
def FnMendBackWrongFalsely : Prop := fnMendBackRow.holds Try.pinned (OpenSpec.ofChange fnMendBackWrong)

/-- 'laws.FnMendWrong': WHATEVER THE INPUT: true; the input reads as it did. -/
def fnMendWrongSpec : ChangeSpec := { name := "fnMendWrong", fn := fun _ => fun
  | [d1, d2] => { results := [.lit (.bool true)], args := [d1, d2] }
  | _ => none }
def fnMendWrongRow : OpenClaim := { program := "ytoelfgkigbfieaa", sum := "87f227abe60285da80900c21544e49c996a0c12b976be651b8280771805a9d1b", func := "loop.example/paling/laws.FnMendWrong", spec := "fnMendWrong", unfollowed := true, recurses := true, apart := false }
def FnMendWrongSaid : Prop := fnMendWrongRow.holds Try.pinned (OpenSpec.ofChange fnMendWrongSpec)

/-- ITS FALSE NEIGHBOUR: 'it returns false'. Refute it at one input. -/
def fnMendWrongWrong : ChangeSpec := { name := "fnMendWrong", fn := fun _ => fun
  | [d1, d2] => { results := [.lit (.bool false)], args := [d1, d2] }
  | _ => none }
def FnMendWrongWrongFalsely : Prop := fnMendWrongRow.holds Try.pinned (OpenSpec.ofChange fnMendWrongWrong)

/-- 'laws.FnMendParity': WHATEVER THE INPUT: true; the input reads as it did. -/
def fnMendParitySpec : ChangeSpec := { name := "fnMendParity", fn := fun _ => fun
  | [d] => { results := [.lit (.bool true)], args := [d] }
  | _ => none }
def fnMendParityRow : OpenClaim := { program := "ytoelfgkigbfieaa", sum := "87f227abe60285da80900c21544e49c996a0c12b976be651b8280771805a9d1b", func := "loop.example/paling/laws.FnMendParity", spec := "fnMendParity", unfollowed := true, recurses := true, apart := false }
def FnMendParitySaid : Prop := fnMendParityRow.holds Try.pinned (OpenSpec.ofChange fnMendParitySpec)

/-- ITS FALSE NEIGHBOUR: 'it returns false'. Refute it at one input. -/
def fnMendParityWrong : ChangeSpec := { name := "fnMendParity", fn := fun _ => fun
  | [d] => { results := [.lit (.bool false)], args := [d] }
  | _ => none }
def FnMendParityWrongFalsely : Prop := fnMendParityRow.holds Try.pinned (OpenSpec.ofChange fnMendParityWrong)

/-- 'laws.FnExactColsOf': WHATEVER THE INPUT: true; the input reads as it did. -/
def fnExactColsOfSpec : ChangeSpec := { name := "fnExactColsOf", fn := fun _ => fun
  | [d] => { results := [.lit (.bool true)], args := [d] }
  | _ => none }
def fnExactColsOfRow : OpenClaim := { program := "ytoelfgkigbfieaa", sum := "87f227abe60285da80900c21544e49c996a0c12b976be651b8280771805a9d1b", func := "loop.example/paling/laws.FnExactColsOf", spec := "fnExactColsOf", inPlace := ["internal/abi.NoEscape", "internal/bytealg.MakeNoZero"], apart := false }
def FnExactColsOfSaid : Prop := fnExactColsOfRow.holds Try.pinned (OpenSpec.ofChange fnExactColsOfSpec)

/-- ITS FALSE NEIGHBOUR: 'it returns false'. Refute it at one input. -/
def fnExactColsOfWrong : ChangeSpec := { name := "fnExactColsOf", fn := fun _ => fun
  | [d] => { results := [.lit (.bool false)], args := [d] }
  | _ => none }
def FnExactColsOfWrongFalsely : Prop := fnExactColsOfRow.holds Try.pinned (OpenSpec.ofChange fnExactColsOfWrong)

/- THE SECOND FORM. 'bulk': how many values and letters a reading holds, each counted each time it is reached (what is shared counts as often as it is met; a slice's spare places count too). A statement '..UptoSaid' is the law's where the arguments, and the package variables that the reading takes, are together of bulk at most 1048576: NARROWER than '..Said'. Prove '..Said' where nothing that the law and all that it calls make is longer than what came in: it says more and counts as full. Else prove '..UptoSaid'. A law counts once. -/
mutual
def uptoBulk {H : Type} : DataW H → Nat
  | .lit (.string bytes) => bytes.length + 1
  | .lit _ => 1
  | .nil => 1
  | .ptr d => uptoBulk d + 1
  | .slice elems spare => uptoBulkAll elems + uptoBulkAll spare + 1
  | .agg parts => uptoBulkAll parts + 1
  | .iface _ d => uptoBulk d + 1
  | .map entries => uptoBulkEntries entries + 1
  | .held _ => 1
def uptoBulkAll {H : Type} : List (DataW H) → Nat
  | [] => 0
  | d :: r => uptoBulk d + uptoBulkAll r
def uptoBulkEntries {H : Type} : List (Lit × DataW H) → Nat
  | [] => 0
  | x :: r => uptoBulkEntry x + uptoBulkEntries r
def uptoBulkEntry {H : Type} : Lit × DataW H → Nat
  | (.string bytes, d) => bytes.length + uptoBulk d + 1
  | (_, d) => uptoBulk d + 1
 end
def uptoSmall : (H : Type) → List (DataW H) → Bool := fun _ ds => decide (uptoBulkAll ds ≤ 1048576)
def OpenSpec.upto (s : _root_.Go.ChangeSpec) : _root_.Go.OpenSpec := { _root_.Go.OpenSpec.ofChange s with cond := some uptoSmall }

/-- 'laws.FnExactConstants', WHERE WHAT IT READS IS OF BULK AT MOST 1048576: true; the input reads as it did. -/
def fnExactConstantsUptoRow : OpenClaim := { program := "ytoelfgkigbfieaa", sum := "87f227abe60285da80900c21544e49c996a0c12b976be651b8280771805a9d1b", func := "loop.example/paling/laws.FnExactConstants", spec := "fnExactConstants", apart := false, narrowed := true }
def FnExactConstantsUptoSaid : Prop := fnExactConstantsUptoRow.holds Try.pinned (OpenSpec.upto fnExactConstantsSpec)

/-- 'laws.FnExactSumOf', WHERE WHAT IT READS IS OF BULK AT MOST 1048576: true; the input reads as it did. -/
def fnExactSumOfUptoRow : OpenClaim := { program := "ytoelfgkigbfieaa", sum := "87f227abe60285da80900c21544e49c996a0c12b976be651b8280771805a9d1b", func := "loop.example/paling/laws.FnExactSumOf", spec := "fnExactSumOf", unfollowed := true, recurses := true, apart := false, narrowed := true }
def FnExactSumOfUptoSaid : Prop := fnExactSumOfUptoRow.holds Try.pinned (OpenSpec.upto fnExactSumOfSpec)

/-- 'laws.FnExactXorOf', WHERE WHAT IT READS IS OF BULK AT MOST 1048576: true; the input reads as it did. -/
def fnExactXorOfUptoRow : OpenClaim := { program := "ytoelfgkigbfieaa", sum := "87f227abe60285da80900c21544e49c996a0c12b976be651b8280771805a9d1b", func := "loop.example/paling/laws.FnExactXorOf", spec := "fnExactXorOf", unfollowed := true, recurses := true, apart := false, narrowed := true }
def FnExactXorOfUptoSaid : Prop := fnExactXorOfUptoRow.holds Try.pinned (OpenSpec.upto fnExactXorOfSpec)

/-- 'laws.FnSumMost', WHERE WHAT IT READS IS OF BULK AT MOST 1048576: true; the input reads as it did. -/
def fnSumMostUptoRow : OpenClaim := { program := "ytoelfgkigbfieaa", sum := "87f227abe60285da80900c21544e49c996a0c12b976be651b8280771805a9d1b", func := "loop.example/paling/laws.FnSumMost", spec := "fnSumMost", unfollowed := true, recurses := true, apart := false, narrowed := true }
def FnSumMostUptoSaid : Prop := fnSumMostUptoRow.holds Try.pinned (OpenSpec.upto fnSumMostSpec)

/-- 'laws.FnSumOne', WHERE WHAT IT READS IS OF BULK AT MOST 1048576: true; the input reads as it did. -/
def fnSumOneUptoRow : OpenClaim := { program := "ytoelfgkigbfieaa", sum := "87f227abe60285da80900c21544e49c996a0c12b976be651b8280771805a9d1b", func := "loop.example/paling/laws.FnSumOne", spec := "fnSumOne", unfollowed := true, recurses := true, apart := false, narrowed := true }
def FnSumOneUptoSaid : Prop := fnSumOneUptoRow.holds Try.pinned (OpenSpec.upto fnSumOneSpec)

/-- 'laws.FnXorBack', WHERE WHAT IT READS IS OF BULK AT MOST 1048576: true; the input reads as it did. -/
def fnXorBackUptoRow : OpenClaim := { program := "ytoelfgkigbfieaa", sum := "87f227abe60285da80900c21544e49c996a0c12b976be651b8280771805a9d1b", func := "loop.example/paling/laws.FnXorBack", spec := "fnXorBack", unfollowed := true, recurses := true, apart := false, narrowed := true }
def FnXorBackUptoSaid : Prop := fnXorBackUptoRow.holds Try.pinned (OpenSpec.upto fnXorBackSpec)

/-- 'laws.FnXorThree', WHERE WHAT IT READS IS OF BULK AT MOST 1048576: true; the input reads as it did. -/
def fnXorThreeUptoRow : OpenClaim := { program := "ytoelfgkigbfieaa", sum := "87f227abe60285da80900c21544e49c996a0c12b976be651b8280771805a9d1b", func := "loop.example/paling/laws.FnXorThree", spec := "fnXorThree", unfollowed := true, recurses := true, apart := false, narrowed := true }
def FnXorThreeUptoSaid : Prop := fnXorThreeUptoRow.holds Try.pinned (OpenSpec.upto fnXorThreeSpec)

/-- 'laws.FnExactMendOf', WHERE WHAT IT READS IS OF BULK AT MOST 1048576: true; the input reads as it did. -/
def fnExactMendOfUptoRow : OpenClaim := { program := "ytoelfgkigbfieaa", sum := "87f227abe60285da80900c21544e49c996a0c12b976be651b8280771805a9d1b", func := "loop.example/paling/laws.FnExactMendOf", spec := "fnExactMendOf", unfollowed := true, recurses := true, apart := false, narrowed := true }
def FnExactMendOfUptoSaid : Prop := fnExactMendOfUptoRow.holds Try.pinned (OpenSpec.upto fnExactMendOfSpec)

/-- 'laws.FnExactParityOf', WHERE WHAT IT READS IS OF BULK AT MOST 1048576: true; the input reads as it did. -/
def fnExactParityOfUptoRow : OpenClaim := { program := "ytoelfgkigbfieaa", sum := "87f227abe60285da80900c21544e49c996a0c12b976be651b8280771805a9d1b", func := "loop.example/paling/laws.FnExactParityOf", spec := "fnExactParityOf", unfollowed := true, recurses := true, apart := false, narrowed := true }
def FnExactParityOfUptoSaid : Prop := fnExactParityOfUptoRow.holds Try.pinned (OpenSpec.upto fnExactParityOfSpec)

/-- 'laws.FnParityMore', WHERE WHAT IT READS IS OF BULK AT MOST 1048576: true; the input reads as it did. -/
def fnParityMoreUptoRow : OpenClaim := { program := "ytoelfgkigbfieaa", sum := "87f227abe60285da80900c21544e49c996a0c12b976be651b8280771805a9d1b", func := "loop.example/paling/laws.FnParityMore", spec := "fnParityMore", unfollowed := true, recurses := true, apart := false, narrowed := true }
def FnParityMoreUptoSaid : Prop := fnParityMoreUptoRow.holds Try.pinned (OpenSpec.upto fnParityMoreSpec)

/-- 'laws.FnParityNone', WHERE WHAT IT READS IS OF BULK AT MOST 1048576: true; the input reads as it did. -/
def fnParityNoneUptoRow : OpenClaim := { program := "ytoelfgkigbfieaa", sum := "87f227abe60285da80900c21544e49c996a0c12b976be651b8280771805a9d1b", func := "loop.example/paling/laws.FnParityNone", spec := "fnParityNone", unfollowed := true, recurses := true, apart := false, narrowed := true }
def FnParityNoneUptoSaid : Prop := fnParityNoneUptoRow.holds Try.pinned (OpenSpec.upto fnParityNoneSpec)

/-- 'laws.FnMendBack', WHERE WHAT IT READS IS OF BULK AT MOST 1048576: true; the input reads as it did. -/
def fnMendBackUptoRow : OpenClaim := { program := "ytoelfgkigbfieaa", sum := "87f227abe60285da80900c21544e49c996a0c12b976be651b8280771805a9d1b", func := "loop.example/paling/laws.FnMendBack", spec := "fnMendBack", unfollowed := true, recurses := true, apart := false, narrowed := true }
def FnMendBackUptoSaid : Prop := fnMendBackUptoRow.holds Try.pinned (OpenSpec.upto fnMendBackSpec)

/-- 'laws.FnMendWrong', WHERE WHAT IT READS IS OF BULK AT MOST 1048576: true; the input reads as it did. -/
def fnMendWrongUptoRow : OpenClaim := { program := "ytoelfgkigbfieaa", sum := "87f227abe60285da80900c21544e49c996a0c12b976be651b8280771805a9d1b", func := "loop.example/paling/laws.FnMendWrong", spec := "fnMendWrong", unfollowed := true, recurses := true, apart := false, narrowed := true }
def FnMendWrongUptoSaid : Prop := fnMendWrongUptoRow.holds Try.pinned (OpenSpec.upto fnMendWrongSpec)

/-- 'laws.FnMendParity', WHERE WHAT IT READS IS OF BULK AT MOST 1048576: true; the input reads as it did. -/
def fnMendParityUptoRow : OpenClaim := { program := "ytoelfgkigbfieaa", sum := "87f227abe60285da80900c21544e49c996a0c12b976be651b8280771805a9d1b", func := "loop.example/paling/laws.FnMendParity", spec := "fnMendParity", unfollowed := true, recurses := true, apart := false, narrowed := true }
def FnMendParityUptoSaid : Prop := fnMendParityUptoRow.holds Try.pinned (OpenSpec.upto fnMendParitySpec)

/-- 'laws.FnExactColsOf', WHERE WHAT IT READS IS OF BULK AT MOST 1048576: true; the input reads as it did. -/
def fnExactColsOfUptoRow : OpenClaim := { program := "ytoelfgkigbfieaa", sum := "87f227abe60285da80900c21544e49c996a0c12b976be651b8280771805a9d1b", func := "loop.example/paling/laws.FnExactColsOf", spec := "fnExactColsOf", inPlace := ["internal/abi.NoEscape", "internal/bytealg.MakeNoZero"], apart := false, narrowed := true }
def FnExactColsOfUptoSaid : Prop := fnExactColsOfUptoRow.holds Try.pinned (OpenSpec.upto fnExactColsOfSpec)

end Rows
end Go.Proofs.Ytoelfgkigbfieaa
