/-
  No cell of these rows narrows 'for every input' (looked for: loops, veiled, ifaces, maps, wideKeys, modest, calm, conditions, laid).
  DERIVED. THE GIVEN ROWS OF THIS SEAT. 13 by the template 'for every input the law returns true; each argument reads behind the call as it read before'; 0 by the template 'total and deterministic' (their statements: YtkgpnloghmbmlaaTotals.lean).
  GIVEN WITH THE SEED: the statements are not yours to turn. If you find one false, say at which input.
  Laid BY PROGRAM, IN A SANDBOX (cutbox-rows.mjs): the forced cells as the released guide's own fill.sh prints them over the translation c453cc385f4e7edf… (all of the seat's roots in one cut). By AI agents, Wed Nov 11 2026. No macro, syntax, notation, axiom, sorry.
-/
import Derived.Test.YtkgpnloghmbmlaaChecked
import GoSem.Claim
import GoSem.ClaimJoined
import GoSem.ClaimMapViews
import Derived.JoinedTies
import Derived.KernelRfl
namespace Go.Proofs.Ytkgpnloghmbmlaa
/- THE CELL 'sum', in the pinned program and in every row, IS THE sha256 OF THE DUMP (.gsa) THAT YtkgpnloghmbmlaaProg.lean LOADS. Nothing in Lean hashes anything: it is a label: what it is worth is what the hold of that sum in a sandbox is worth. -/
noncomputable def Try.pinned : Pinned := { name := "ytkgpnloghmbmlaa", sum := "c453cc385f4e7edf5e93de60b469d2546ff3ee50d8b0a91d84478a09a07b8948", checked := Try.checked }
namespace Rows
def none {H : Type} : Left H := { results := [], args := [] }

/-- 'laws.FnDiskNew': WHATEVER THE INPUT: true; the input reads as it did. -/
def fnDiskNewSpec : ChangeSpec := { name := "fnDiskNew", fn := fun _ => fun
  | [d] => { results := [.lit (.bool true)], args := [d] }
  | _ => none }
def fnDiskNewRow : OpenClaim := { program := "ytkgpnloghmbmlaa", sum := "c453cc385f4e7edf5e93de60b469d2546ff3ee50d8b0a91d84478a09a07b8948", func := "loop.example/paling/laws.FnDiskNew", spec := "fnDiskNew", unfollowed := true, recurses := true, apart := false }
def FnDiskNewSaid : Prop := fnDiskNewRow.holds Try.pinned (OpenSpec.ofChange fnDiskNewSpec)

/-- ITS FALSE NEIGHBOUR: 'it returns false'. Refute it at one input. -/
def fnDiskNewWrong : ChangeSpec := { name := "fnDiskNew", fn := fun _ => fun
  | [d] => { results := [.lit (.bool false)], args := [d] }
  | _ => none }
def FnDiskNewWrongFalsely : Prop := fnDiskNewRow.holds Try.pinned (OpenSpec.ofChange fnDiskNewWrong)

/-- 'laws.FnExactDiskNew': WHATEVER THE INPUT: true; the input reads as it did. -/
def fnExactDiskNewSpec : ChangeSpec := { name := "fnExactDiskNew", fn := fun _ => fun
  | [d] => { results := [.lit (.bool true)], args := [d] }
  | _ => none }
def fnExactDiskNewRow : OpenClaim := { program := "ytkgpnloghmbmlaa", sum := "c453cc385f4e7edf5e93de60b469d2546ff3ee50d8b0a91d84478a09a07b8948", func := "loop.example/paling/laws.FnExactDiskNew", spec := "fnExactDiskNew", apart := false }
def FnExactDiskNewSaid : Prop := fnExactDiskNewRow.holds Try.pinned (OpenSpec.ofChange fnExactDiskNewSpec)

/-- ITS FALSE NEIGHBOUR: 'it returns false'. Refute it at one input. -/
def fnExactDiskNewWrong : ChangeSpec := { name := "fnExactDiskNew", fn := fun _ => fun
  | [d] => { results := [.lit (.bool false)], args := [d] }
  | _ => none }
def FnExactDiskNewWrongFalsely : Prop := fnExactDiskNewRow.holds Try.pinned (OpenSpec.ofChange fnExactDiskNewWrong)

/-- 'laws.FnExactDiskOk': WHATEVER THE INPUT: true; the input reads as it did. -/
def fnExactDiskOkSpec : ChangeSpec := { name := "fnExactDiskOk", fn := fun _ => fun
  | [d] => { results := [.lit (.bool true)], args := [d] }
  | _ => none }
def fnExactDiskOkRow : OpenClaim := { program := "ytkgpnloghmbmlaa", sum := "c453cc385f4e7edf5e93de60b469d2546ff3ee50d8b0a91d84478a09a07b8948", func := "loop.example/paling/laws.FnExactDiskOk", spec := "fnExactDiskOk", unfollowed := true, recurses := true, apart := false }
def FnExactDiskOkSaid : Prop := fnExactDiskOkRow.holds Try.pinned (OpenSpec.ofChange fnExactDiskOkSpec)

/-- ITS FALSE NEIGHBOUR: 'it returns false'. Refute it at one input. -/
def fnExactDiskOkWrong : ChangeSpec := { name := "fnExactDiskOk", fn := fun _ => fun
  | [d] => { results := [.lit (.bool false)], args := [d] }
  | _ => none }
def FnExactDiskOkWrongFalsely : Prop := fnExactDiskOkRow.holds Try.pinned (OpenSpec.ofChange fnExactDiskOkWrong)

/-- 'laws.FnExactDiskRead': WHATEVER THE INPUT: true; the input reads as it did. -/
def fnExactDiskReadSpec : ChangeSpec := { name := "fnExactDiskRead", fn := fun _ => fun
  | [d1, d2] => { results := [.lit (.bool true)], args := [d1, d2] }
  | _ => none }
def fnExactDiskReadRow : OpenClaim := { program := "ytkgpnloghmbmlaa", sum := "c453cc385f4e7edf5e93de60b469d2546ff3ee50d8b0a91d84478a09a07b8948", func := "loop.example/paling/laws.FnExactDiskRead", spec := "fnExactDiskRead", unfollowed := true, recurses := true, apart := false }
def FnExactDiskReadSaid : Prop := fnExactDiskReadRow.holds Try.pinned (OpenSpec.ofChange fnExactDiskReadSpec)

/-- ITS FALSE NEIGHBOUR: 'it returns false'. Refute it at one input. -/
def fnExactDiskReadWrong : ChangeSpec := { name := "fnExactDiskRead", fn := fun _ => fun
  | [d1, d2] => { results := [.lit (.bool false)], args := [d1, d2] }
  | _ => none }
def FnExactDiskReadWrongFalsely : Prop := fnExactDiskReadRow.holds Try.pinned (OpenSpec.ofChange fnExactDiskReadWrong)

/-- 'laws.FnExactStripeOk': WHATEVER THE INPUT: true; the input reads as it did. -/
def fnExactStripeOkSpec : ChangeSpec := { name := "fnExactStripeOk", fn := fun _ => fun
  | [d] => { results := [.lit (.bool true)], args := [d] }
  | _ => none }
def fnExactStripeOkRow : OpenClaim := { program := "ytkgpnloghmbmlaa", sum := "c453cc385f4e7edf5e93de60b469d2546ff3ee50d8b0a91d84478a09a07b8948", func := "loop.example/paling/laws.FnExactStripeOk", spec := "fnExactStripeOk", unfollowed := true, recurses := true, apart := false }
def FnExactStripeOkSaid : Prop := fnExactStripeOkRow.holds Try.pinned (OpenSpec.ofChange fnExactStripeOkSpec)

/-- ITS FALSE NEIGHBOUR: 'it returns false'. Refute it at one input. -/
def fnExactStripeOkWrong : ChangeSpec := { name := "fnExactStripeOk", fn := fun _ => fun
  | [d] => { results := [.lit (.bool false)], args := [d] }
  | _ => none }
def FnExactStripeOkWrongFalsely : Prop := fnExactStripeOkRow.holds Try.pinned (OpenSpec.ofChange fnExactStripeOkWrong)

/-- 'laws.FnDiskFlush': WHATEVER THE INPUT: true; the input reads as it did. -/
def fnDiskFlushSpec : ChangeSpec := { name := "fnDiskFlush", fn := fun _ => fun
  | [d] => { results := [.lit (.bool true)], args := [d] }
  | _ => none }
def fnDiskFlushRow : OpenClaim := { program := "ytkgpnloghmbmlaa", sum := "c453cc385f4e7edf5e93de60b469d2546ff3ee50d8b0a91d84478a09a07b8948", func := "loop.example/paling/laws.FnDiskFlush", spec := "fnDiskFlush", unfollowed := true, recurses := true, apart := false }
def FnDiskFlushSaid : Prop := fnDiskFlushRow.holds Try.pinned (OpenSpec.ofChange fnDiskFlushSpec)

/-- ITS FALSE NEIGHBOUR: 'it returns false'. Refute it at one input. -/
def fnDiskFlushWrong : ChangeSpec := { name := "fnDiskFlush", fn := fun _ => fun
  | [d] => { results := [.lit (.bool false)], args := [d] }
  | _ => none }
def FnDiskFlushWrongFalsely : Prop := fnDiskFlushRow.holds Try.pinned (OpenSpec.ofChange fnDiskFlushWrong)

/-- 'laws.FnDiskMost': WHATEVER THE INPUT: true; the input reads as it did. -/
def fnDiskMostSpec : ChangeSpec := { name := "fnDiskMost", fn := fun _ => fun
  | [d] => { results := [.lit (.bool true)], args := [d] }
  | _ => none }
def fnDiskMostRow : OpenClaim := { program := "ytkgpnloghmbmlaa", sum := "c453cc385f4e7edf5e93de60b469d2546ff3ee50d8b0a91d84478a09a07b8948", func := "loop.example/paling/laws.FnDiskMost", spec := "fnDiskMost", unfollowed := true, recurses := true, apart := false }
def FnDiskMostSaid : Prop := fnDiskMostRow.holds Try.pinned (OpenSpec.ofChange fnDiskMostSpec)

/-- ITS FALSE NEIGHBOUR: 'it returns false'. Refute it at one input. -/
def fnDiskMostWrong : ChangeSpec := { name := "fnDiskMost", fn := fun _ => fun
  | [d] => { results := [.lit (.bool false)], args := [d] }
  | _ => none }
def FnDiskMostWrongFalsely : Prop := fnDiskMostRow.holds Try.pinned (OpenSpec.ofChange fnDiskMostWrong)

/-- 'laws.FnDiskRing': WHATEVER THE INPUT: true; the input reads as it did. -/
def fnDiskRingSpec : ChangeSpec := { name := "fnDiskRing", fn := fun _ => fun
  | [d1, d2] => { results := [.lit (.bool true)], args := [d1, d2] }
  | _ => none }
def fnDiskRingRow : OpenClaim := { program := "ytkgpnloghmbmlaa", sum := "c453cc385f4e7edf5e93de60b469d2546ff3ee50d8b0a91d84478a09a07b8948", func := "loop.example/paling/laws.FnDiskRing", spec := "fnDiskRing", unfollowed := true, recurses := true, apart := false }
def FnDiskRingSaid : Prop := fnDiskRingRow.holds Try.pinned (OpenSpec.ofChange fnDiskRingSpec)

/-- ITS FALSE NEIGHBOUR: 'it returns false'. Refute it at one input. -/
def fnDiskRingWrong : ChangeSpec := { name := "fnDiskRing", fn := fun _ => fun
  | [d1, d2] => { results := [.lit (.bool false)], args := [d1, d2] }
  | _ => none }
def FnDiskRingWrongFalsely : Prop := fnDiskRingRow.holds Try.pinned (OpenSpec.ofChange fnDiskRingWrong)

/-- 'laws.FnDiskPut': WHATEVER THE INPUT: true; the input reads as it did. -/
def fnDiskPutSpec : ChangeSpec := { name := "fnDiskPut", fn := fun _ => fun
  | [d] => { results := [.lit (.bool true)], args := [d] }
  | _ => none }
def fnDiskPutRow : OpenClaim := { program := "ytkgpnloghmbmlaa", sum := "c453cc385f4e7edf5e93de60b469d2546ff3ee50d8b0a91d84478a09a07b8948", func := "loop.example/paling/laws.FnDiskPut", spec := "fnDiskPut", unfollowed := true, recurses := true, apart := false }
def FnDiskPutSaid : Prop := fnDiskPutRow.holds Try.pinned (OpenSpec.ofChange fnDiskPutSpec)

/-- ITS FALSE NEIGHBOUR: 'it returns false'. Refute it at one input. -/
def fnDiskPutWrong : ChangeSpec := { name := "fnDiskPut", fn := fun _ => fun
  | [d] => { results := [.lit (.bool false)], args := [d] }
  | _ => none }
def FnDiskPutWrongFalsely : Prop := fnDiskPutRow.holds Try.pinned (OpenSpec.ofChange fnDiskPutWrong)

/-- 'laws.FnDiskSpoil': WHATEVER THE INPUT: true; the input reads as it did. -/
def fnDiskSpoilSpec : ChangeSpec := { name := "fnDiskSpoil", fn := fun _ => fun
  | [d] => { results := [.lit (.bool true)], args := [d] }
  | _ => none }
def fnDiskSpoilRow : OpenClaim := { program := "ytkgpnloghmbmlaa", sum := "c453cc385f4e7edf5e93de60b469d2546ff3ee50d8b0a91d84478a09a07b8948", func := "loop.example/paling/laws.FnDiskSpoil", spec := "fnDiskSpoil", unfollowed := true, recurses := true, apart := false }
def FnDiskSpoilSaid : Prop := fnDiskSpoilRow.holds Try.pinned (OpenSpec.ofChange fnDiskSpoilSpec)

/-- ITS FALSE NEIGHBOUR: 'it returns false'. Refute it at one input. -/
def fnDiskSpoilWrong : ChangeSpec := { name := "fnDiskSpoil", fn := fun _ => fun
  | [d] => { results := [.lit (.bool false)], args := [d] }
  | _ => none }
def FnDiskSpoilWrongFalsely : Prop := fnDiskSpoilRow.holds Try.pinned (OpenSpec.ofChange fnDiskSpoilWrong)

/-- 'laws.FnExactDiskSpoil': WHATEVER THE INPUT: true; the input reads as it did. -/
def fnExactDiskSpoilSpec : ChangeSpec := { name := "fnExactDiskSpoil", fn := fun _ => fun
  | [d1, d2, d3, d4] => { results := [.lit (.bool true)], args := [d1, d2, d3, d4] }
  | _ => none }
def fnExactDiskSpoilRow : OpenClaim := { program := "ytkgpnloghmbmlaa", sum := "c453cc385f4e7edf5e93de60b469d2546ff3ee50d8b0a91d84478a09a07b8948", func := "loop.example/paling/laws.FnExactDiskSpoil", spec := "fnExactDiskSpoil", unfollowed := true, recurses := true, apart := false }
def FnExactDiskSpoilSaid : Prop := fnExactDiskSpoilRow.holds Try.pinned (OpenSpec.ofChange fnExactDiskSpoilSpec)

/-- ITS FALSE NEIGHBOUR: 'it returns false'. Refute it at one input. -/
def fnExactDiskSpoilWrong : ChangeSpec := { name := "fnExactDiskSpoil", fn := fun _ => fun
  | [d1, d2, d3, d4] => { results := [.lit (.bool false)], args := [d1, d2, d3, d4] }
  | _ => none }
def FnExactDiskSpoilWrongFalsely : Prop := fnExactDiskSpoilRow.holds Try.pinned (OpenSpec.ofChange fnExactDiskSpoilWrong)

/-- 'laws.FnExactDiskFlush': WHATEVER THE INPUT: true; the input reads as it did. -/
def fnExactDiskFlushSpec : ChangeSpec := { name := "fnExactDiskFlush", fn := fun _ => fun
  | [d] => { results := [.lit (.bool true)], args := [d] }
  | _ => none }
def fnExactDiskFlushRow : OpenClaim := { program := "ytkgpnloghmbmlaa", sum := "c453cc385f4e7edf5e93de60b469d2546ff3ee50d8b0a91d84478a09a07b8948", func := "loop.example/paling/laws.FnExactDiskFlush", spec := "fnExactDiskFlush", unfollowed := true, recurses := true, apart := false }
def FnExactDiskFlushSaid : Prop := fnExactDiskFlushRow.holds Try.pinned (OpenSpec.ofChange fnExactDiskFlushSpec)

/-- ITS FALSE NEIGHBOUR: 'it returns false'. Refute it at one input. -/
def fnExactDiskFlushWrong : ChangeSpec := { name := "fnExactDiskFlush", fn := fun _ => fun
  | [d] => { results := [.lit (.bool false)], args := [d] }
  | _ => none }
def FnExactDiskFlushWrongFalsely : Prop := fnExactDiskFlushRow.holds Try.pinned (OpenSpec.ofChange fnExactDiskFlushWrong)

/-- 'laws.FnExactDiskPut': WHATEVER THE INPUT: true; the input reads as it did. -/
def fnExactDiskPutSpec : ChangeSpec := { name := "fnExactDiskPut", fn := fun _ => fun
  | [d1, d2] => { results := [.lit (.bool true)], args := [d1, d2] }
  | _ => none }
def fnExactDiskPutRow : OpenClaim := { program := "ytkgpnloghmbmlaa", sum := "c453cc385f4e7edf5e93de60b469d2546ff3ee50d8b0a91d84478a09a07b8948", func := "loop.example/paling/laws.FnExactDiskPut", spec := "fnExactDiskPut", unfollowed := true, recurses := true, apart := false }
def FnExactDiskPutSaid : Prop := fnExactDiskPutRow.holds Try.pinned (OpenSpec.ofChange fnExactDiskPutSpec)

/-- ITS FALSE NEIGHBOUR: 'it returns false'. Refute it at one input. -/
def fnExactDiskPutWrong : ChangeSpec := { name := "fnExactDiskPut", fn := fun _ => fun
  | [d1, d2] => { results := [.lit (.bool false)], args := [d1, d2] }
  | _ => none }
def FnExactDiskPutWrongFalsely : Prop := fnExactDiskPutRow.holds Try.pinned (OpenSpec.ofChange fnExactDiskPutWrong)

/- THE SECOND FORM. 'bulk': how many values and letters a reading holds, each counted each time it is reached (what is shared counts as often as it is met; a slice's spare places count too). A statement '..UptoSaid' is the law's where the arguments, and the package variables that the reading takes, are together of bulk at most 1048576: NARROWER than '..Said'. Prove '..Said' where nothing that the law and all that it calls make is longer than what came in: it says more and counts as full. Else prove '..UptoSaid'. A law counts once. -/
mutual
def uptoBulk {H : Type} : DataW H → Nat
  | .lit (.string bytes) => bytes.length + 1
  | .lit _ => 1
  | .nil => 1
  | .ptr d => uptoBulk d + 1
  | .slice elems spare => uptoBulkAll elems + uptoBulkAll spare + 1
  | .agg parts => uptoBulkAll parts + 1
  | .iface _ d => uptoBulk d + 1
  | .map entries => uptoBulkEntries entries + 1
  | .held _ => 1
def uptoBulkAll {H : Type} : List (DataW H) → Nat
  | [] => 0
  | d :: r => uptoBulk d + uptoBulkAll r
def uptoBulkEntries {H : Type} : List (Lit × DataW H) → Nat
  | [] => 0
  | x :: r => uptoBulkEntry x + uptoBulkEntries r
def uptoBulkEntry {H : Type} : Lit × DataW H → Nat
  | (.string bytes, d) => bytes.length + uptoBulk d + 1
  | (_, d) => uptoBulk d + 1
 end
def uptoSmall : (H : Type) → List (DataW H) → Bool := fun _ ds => decide (uptoBulkAll ds ≤ 1048576)
def OpenSpec.upto (s : _root_.Go.ChangeSpec) : _root_.Go.OpenSpec := { _root_.Go.OpenSpec.ofChange s with cond := some uptoSmall }

/-- 'laws.FnDiskNew', WHERE WHAT IT READS IS OF BULK AT MOST 1048576: true; the input reads as it did. -/
def fnDiskNewUptoRow : OpenClaim := { program := "ytkgpnloghmbmlaa", sum := "c453cc385f4e7edf5e93de60b469d2546ff3ee50d8b0a91d84478a09a07b8948", func := "loop.example/paling/laws.FnDiskNew", spec := "fnDiskNew", unfollowed := true, recurses := true, apart := false, narrowed := true }
def FnDiskNewUptoSaid : Prop := fnDiskNewUptoRow.holds Try.pinned (OpenSpec.upto fnDiskNewSpec)

/-- 'laws.FnExactDiskNew', WHERE WHAT IT READS IS OF BULK AT MOST 1048576: true; the input reads as it did. -/
def fnExactDiskNewUptoRow : OpenClaim := { program := "ytkgpnloghmbmlaa", sum := "c453cc385f4e7edf5e93de60b469d2546ff3ee50d8b0a91d84478a09a07b8948", func := "loop.example/paling/laws.FnExactDiskNew", spec := "fnExactDiskNew", apart := false, narrowed := true }
def FnExactDiskNewUptoSaid : Prop := fnExactDiskNewUptoRow.holds Try.pinned (OpenSpec.upto fnExactDiskNewSpec)

/-- 'laws.FnExactDiskOk', WHERE WHAT IT READS IS OF BULK AT MOST 1048576: true; the input reads as it did. -/
def fnExactDiskOkUptoRow : OpenClaim := { program := "ytkgpnloghmbmlaa", sum := "c453cc385f4e7edf5e93de60b469d2546ff3ee50d8b0a91d84478a09a07b8948", func := "loop.example/paling/laws.FnExactDiskOk", spec := "fnExactDiskOk", unfollowed := true, recurses := true, apart := false, narrowed := true }
def FnExactDiskOkUptoSaid : Prop := fnExactDiskOkUptoRow.holds Try.pinned (OpenSpec.upto fnExactDiskOkSpec)

/-- 'laws.FnExactDiskRead', WHERE WHAT IT READS IS OF BULK AT MOST 1048576: true; the input reads as it did. -/
def fnExactDiskReadUptoRow : OpenClaim := { program := "ytkgpnloghmbmlaa", sum := "c453cc385f4e7edf5e93de60b469d2546ff3ee50d8b0a91d84478a09a07b8948", func := "loop.example/paling/laws.FnExactDiskRead", spec := "fnExactDiskRead", unfollowed := true, recurses := true, apart := false, narrowed := true }
def FnExactDiskReadUptoSaid : Prop := fnExactDiskReadUptoRow.holds Try.pinned (OpenSpec.upto fnExactDiskReadSpec)

/-- 'laws.FnExactStripeOk', WHERE WHAT IT READS IS OF BULK AT MOST 1048576: true; the input reads as it did. -/
def fnExactStripeOkUptoRow : OpenClaim := { program := "ytkgpnloghmbmlaa", sum := "c453cc385f4e7edf5e93de60b469d2546ff3ee50d8b0a91d84478a09a07b8948", func := "loop.example/paling/laws.FnExactStripeOk", spec := "fnExactStripeOk", unfollowed := true, recurses := true, apart := false, narrowed := true }
def FnExactStripeOkUptoSaid : Prop := fnExactStripeOkUptoRow.holds Try.pinned (OpenSpec.upto fnExactStripeOkSpec)

/-- 'laws.FnDiskFlush', WHERE WHAT IT READS IS OF BULK AT MOST 1048576: true; the input reads as it did. -/
def fnDiskFlushUptoRow : OpenClaim := { program := "ytkgpnloghmbmlaa", sum := "c453cc385f4e7edf5e93de60b469d2546ff3ee50d8b0a91d84478a09a07b8948", func := "loop.example/paling/laws.FnDiskFlush", spec := "fnDiskFlush", unfollowed := true, recurses := true, apart := false, narrowed := true }
def FnDiskFlushUptoSaid : Prop := fnDiskFlushUptoRow.holds Try.pinned (OpenSpec.upto fnDiskFlushSpec)

/-- 'laws.FnDiskMost', WHERE WHAT IT READS IS OF BULK AT MOST 1048576: true; the input reads as it did. -/
def fnDiskMostUptoRow : OpenClaim := { program := "ytkgpnloghmbmlaa", sum := "c453cc385f4e7edf5e93de60b469d2546ff3ee50d8b0a91d84478a09a07b8948", func := "loop.example/paling/laws.FnDiskMost", spec := "fnDiskMost", unfollowed := true, recurses := true, apart := false, narrowed := true }
def FnDiskMostUptoSaid : Prop := fnDiskMostUptoRow.holds Try.pinned (OpenSpec.upto fnDiskMostSpec)

/-- 'laws.FnDiskRing', WHERE WHAT IT READS IS OF BULK AT MOST 1048576: true; the input reads as it did. -/
def fnDiskRingUptoRow : OpenClaim := { program := "ytkgpnloghmbmlaa", sum := "c453cc385f4e7edf5e93de60b469d2546ff3ee50d8b0a91d84478a09a07b8948", func := "loop.example/paling/laws.FnDiskRing", spec := "fnDiskRing", unfollowed := true, recurses := true, apart := false, narrowed := true }
def FnDiskRingUptoSaid : Prop := fnDiskRingUptoRow.holds Try.pinned (OpenSpec.upto fnDiskRingSpec)

/-- 'laws.FnDiskPut', WHERE WHAT IT READS IS OF BULK AT MOST 1048576: true; the input reads as it did. -/
def fnDiskPutUptoRow : OpenClaim := { program := "ytkgpnloghmbmlaa", sum := "c453cc385f4e7edf5e93de60b469d2546ff3ee50d8b0a91d84478a09a07b8948", func := "loop.example/paling/laws.FnDiskPut", spec := "fnDiskPut", unfollowed := true, recurses := true, apart := false, narrowed := true }
def FnDiskPutUptoSaid : Prop := fnDiskPutUptoRow.holds Try.pinned (OpenSpec.upto fnDiskPutSpec)

/-- 'laws.FnDiskSpoil', WHERE WHAT IT READS IS OF BULK AT MOST 1048576: true; the input reads as it did. -/
def fnDiskSpoilUptoRow : OpenClaim := { program := "ytkgpnloghmbmlaa", sum := "c453cc385f4e7edf5e93de60b469d2546ff3ee50d8b0a91d84478a09a07b8948", func := "loop.example/paling/laws.FnDiskSpoil", spec := "fnDiskSpoil", unfollowed := true, recurses := true, apart := false, narrowed := true }
def FnDiskSpoilUptoSaid : Prop := fnDiskSpoilUptoRow.holds Try.pinned (OpenSpec.upto fnDiskSpoilSpec)

/-- 'laws.FnExactDiskSpoil', WHERE WHAT IT READS IS OF BULK AT MOST 1048576: true; the input reads as it did. -/
def fnExactDiskSpoilUptoRow : OpenClaim := { program := "ytkgpnloghmbmlaa", sum := "c453cc385f4e7edf5e93de60b469d2546ff3ee50d8b0a91d84478a09a07b8948", func := "loop.example/paling/laws.FnExactDiskSpoil", spec := "fnExactDiskSpoil", unfollowed := true, recurses := true, apart := false, narrowed := true }
def FnExactDiskSpoilUptoSaid : Prop := fnExactDiskSpoilUptoRow.holds Try.pinned (OpenSpec.upto fnExactDiskSpoilSpec)

/-- 'laws.FnExactDiskFlush', WHERE WHAT IT READS IS OF BULK AT MOST 1048576: true; the input reads as it did. -/
def fnExactDiskFlushUptoRow : OpenClaim := { program := "ytkgpnloghmbmlaa", sum := "c453cc385f4e7edf5e93de60b469d2546ff3ee50d8b0a91d84478a09a07b8948", func := "loop.example/paling/laws.FnExactDiskFlush", spec := "fnExactDiskFlush", unfollowed := true, recurses := true, apart := false, narrowed := true }
def FnExactDiskFlushUptoSaid : Prop := fnExactDiskFlushUptoRow.holds Try.pinned (OpenSpec.upto fnExactDiskFlushSpec)

/-- 'laws.FnExactDiskPut', WHERE WHAT IT READS IS OF BULK AT MOST 1048576: true; the input reads as it did. -/
def fnExactDiskPutUptoRow : OpenClaim := { program := "ytkgpnloghmbmlaa", sum := "c453cc385f4e7edf5e93de60b469d2546ff3ee50d8b0a91d84478a09a07b8948", func := "loop.example/paling/laws.FnExactDiskPut", spec := "fnExactDiskPut", unfollowed := true, recurses := true, apart := false, narrowed := true }
def FnExactDiskPutUptoSaid : Prop := fnExactDiskPutUptoRow.holds Try.pinned (OpenSpec.upto fnExactDiskPutSpec)

end Rows
end Go.Proofs.Ytkgpnloghmbmlaa
