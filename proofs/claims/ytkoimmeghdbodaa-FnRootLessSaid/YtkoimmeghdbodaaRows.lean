/-
  No cell of these rows narrows 'for every input' (looked for: loops, veiled, ifaces, maps, wideKeys, modest, calm, conditions, laid).
  DERIVED. THE GIVEN ROWS OF THIS SEAT. 14 by the template 'for every input the law returns true; each argument reads behind the call as it read before'; 0 by the template 'total and deterministic' (their statements: YtkoimmeghdbodaaTotals.lean).
  GIVEN WITH THE SEED: the statements are not yours to turn. If you find one false, say at which input.
  Laid BY PROGRAM, IN A SANDBOX (cutbox-rows.mjs): the forced cells as the released guide's own fill.sh prints them over the translation fb2d8c09c6f7e44e… (all of the seat's roots in one cut). By AI agents, Wed Nov 11 2026. No macro, syntax, notation, axiom, sorry.
-/
import Derived.Test.YtkoimmeghdbodaaChecked
import GoSem.Claim
import GoSem.ClaimJoined
import GoSem.ClaimMapViews
import Derived.JoinedTies
import Derived.KernelRfl
namespace Go.Proofs.Ytkoimmeghdbodaa
/- THE CELL 'sum', in the pinned program and in every row, IS THE sha256 OF THE DUMP (.gsa) THAT YtkoimmeghdbodaaProg.lean LOADS. Nothing in Lean hashes anything: it is a label: what it is worth is what the hold of that sum in a sandbox is worth. -/
noncomputable def Try.pinned : Pinned := { name := "ytkoimmeghdbodaa", sum := "fb2d8c09c6f7e44e0cfbddff1ccd0293d6bbfa3698cdca5bea60052e4cf469f6", checked := Try.checked }
namespace Rows
def none {H : Type} : Left H := { results := [], args := [] }

/-- 'laws.FnExactPtrOk': WHATEVER THE INPUT: true; the input reads as it did. -/
def fnExactPtrOkSpec : ChangeSpec := { name := "fnExactPtrOk", fn := fun _ => fun
  | [d1, d2] => { results := [.lit (.bool true)], args := [d1, d2] }
  | _ => none }
def fnExactPtrOkRow : OpenClaim := { program := "ytkoimmeghdbodaa", sum := "fb2d8c09c6f7e44e0cfbddff1ccd0293d6bbfa3698cdca5bea60052e4cf469f6", func := "loop.example/paling/laws.FnExactPtrOk", spec := "fnExactPtrOk", unfollowed := true, recurses := true, plainKeys := false, apart := false }
def FnExactPtrOkSaid : Prop := fnExactPtrOkRow.holds Try.pinned (OpenSpec.ofChange fnExactPtrOkSpec)

/-- ITS FALSE NEIGHBOUR: 'it returns false'. Refute it at one input. -/
def fnExactPtrOkWrong : ChangeSpec := { name := "fnExactPtrOk", fn := fun _ => fun
  | [d1, d2] => { results := [.lit (.bool false)], args := [d1, d2] }
  | _ => none }
def FnExactPtrOkWrongFalsely : Prop := fnExactPtrOkRow.holds Try.pinned (OpenSpec.ofChange fnExactPtrOkWrong)

/-- 'laws.FnPtrApart': WHATEVER THE INPUT: true; the input reads as it did. -/
def fnPtrApartSpec : ChangeSpec := { name := "fnPtrApart", fn := fun _ => fun
  | [d] => { results := [.lit (.bool true)], args := [d] }
  | _ => none }
def fnPtrApartRow : OpenClaim := { program := "ytkoimmeghdbodaa", sum := "fb2d8c09c6f7e44e0cfbddff1ccd0293d6bbfa3698cdca5bea60052e4cf469f6", func := "loop.example/paling/laws.FnPtrApart", spec := "fnPtrApart", unfollowed := true, recurses := true, plainKeys := false, apart := false }
def FnPtrApartSaid : Prop := fnPtrApartRow.holds Try.pinned (OpenSpec.ofChange fnPtrApartSpec)

/-- ITS FALSE NEIGHBOUR: 'it returns false'. Refute it at one input. -/
def fnPtrApartWrong : ChangeSpec := { name := "fnPtrApart", fn := fun _ => fun
  | [d] => { results := [.lit (.bool false)], args := [d] }
  | _ => none }
def FnPtrApartWrongFalsely : Prop := fnPtrApartRow.holds Try.pinned (OpenSpec.ofChange fnPtrApartWrong)

/-- 'laws.FnStripePtr': WHATEVER THE INPUT: true; the input reads as it did. -/
def fnStripePtrSpec : ChangeSpec := { name := "fnStripePtr", fn := fun _ => fun
  | [d] => { results := [.lit (.bool true)], args := [d] }
  | _ => none }
def fnStripePtrRow : OpenClaim := { program := "ytkoimmeghdbodaa", sum := "fb2d8c09c6f7e44e0cfbddff1ccd0293d6bbfa3698cdca5bea60052e4cf469f6", func := "loop.example/paling/laws.FnStripePtr", spec := "fnStripePtr", unfollowed := true, recurses := true, plainKeys := false, apart := false }
def FnStripePtrSaid : Prop := fnStripePtrRow.holds Try.pinned (OpenSpec.ofChange fnStripePtrSpec)

/-- ITS FALSE NEIGHBOUR: 'it returns false'. Refute it at one input. -/
def fnStripePtrWrong : ChangeSpec := { name := "fnStripePtr", fn := fun _ => fun
  | [d] => { results := [.lit (.bool false)], args := [d] }
  | _ => none }
def FnStripePtrWrongFalsely : Prop := fnStripePtrRow.holds Try.pinned (OpenSpec.ofChange fnStripePtrWrong)

/-- 'laws.FnExactStripePtr': WHATEVER THE INPUT: true; the input reads as it did. -/
def fnExactStripePtrSpec : ChangeSpec := { name := "fnExactStripePtr", fn := fun _ => fun
  | [d1, d2] => { results := [.lit (.bool true)], args := [d1, d2] }
  | _ => none }
def fnExactStripePtrRow : OpenClaim := { program := "ytkoimmeghdbodaa", sum := "fb2d8c09c6f7e44e0cfbddff1ccd0293d6bbfa3698cdca5bea60052e4cf469f6", func := "loop.example/paling/laws.FnExactStripePtr", spec := "fnExactStripePtr", unfollowed := true, recurses := true, plainKeys := false, apart := false }
def FnExactStripePtrSaid : Prop := fnExactStripePtrRow.holds Try.pinned (OpenSpec.ofChange fnExactStripePtrSpec)

/-- ITS FALSE NEIGHBOUR: 'it returns false'. Refute it at one input. -/
def fnExactStripePtrWrong : ChangeSpec := { name := "fnExactStripePtr", fn := fun _ => fun
  | [d1, d2] => { results := [.lit (.bool false)], args := [d1, d2] }
  | _ => none }
def FnExactStripePtrWrongFalsely : Prop := fnExactStripePtrRow.holds Try.pinned (OpenSpec.ofChange fnExactStripePtrWrong)

/-- 'laws.FnExactRootOk': WHATEVER THE INPUT: true; the input reads as it did. -/
def fnExactRootOkSpec : ChangeSpec := { name := "fnExactRootOk", fn := fun _ => fun
  | [d1, d2] => { results := [.lit (.bool true)], args := [d1, d2] }
  | _ => none }
def fnExactRootOkRow : OpenClaim := { program := "ytkoimmeghdbodaa", sum := "fb2d8c09c6f7e44e0cfbddff1ccd0293d6bbfa3698cdca5bea60052e4cf469f6", func := "loop.example/paling/laws.FnExactRootOk", spec := "fnExactRootOk", unfollowed := true, recurses := true, plainKeys := false, apart := false }
def FnExactRootOkSaid : Prop := fnExactRootOkRow.holds Try.pinned (OpenSpec.ofChange fnExactRootOkSpec)

/-- ITS FALSE NEIGHBOUR: 'it returns false'. Refute it at one input. -/
def fnExactRootOkWrong : ChangeSpec := { name := "fnExactRootOk", fn := fun _ => fun
  | [d1, d2] => { results := [.lit (.bool false)], args := [d1, d2] }
  | _ => none }
def FnExactRootOkWrongFalsely : Prop := fnExactRootOkRow.holds Try.pinned (OpenSpec.ofChange fnExactRootOkWrong)

/-- 'laws.FnRootLess': WHATEVER THE INPUT: true; the input reads as it did. -/
def fnRootLessSpec : ChangeSpec := { name := "fnRootLess", fn := fun _ => fun
  | [d1, d2] => { results := [.lit (.bool true)], args := [d1, d2] }
  | _ => none }
def fnRootLessRow : OpenClaim := { program := "ytkoimmeghdbodaa", sum := "fb2d8c09c6f7e44e0cfbddff1ccd0293d6bbfa3698cdca5bea60052e4cf469f6", func := "loop.example/paling/laws.FnRootLess", spec := "fnRootLess", unfollowed := true, recurses := true, plainKeys := false, apart := false }
def FnRootLessSaid : Prop := fnRootLessRow.holds Try.pinned (OpenSpec.ofChange fnRootLessSpec)

/-- ITS FALSE NEIGHBOUR: 'it returns false'. Refute it at one input. -/
def fnRootLessWrong : ChangeSpec := { name := "fnRootLess", fn := fun _ => fun
  | [d1, d2] => { results := [.lit (.bool false)], args := [d1, d2] }
  | _ => none }
def FnRootLessWrongFalsely : Prop := fnRootLessRow.holds Try.pinned (OpenSpec.ofChange fnRootLessWrong)

/-- 'laws.FnRootPlaces': WHATEVER THE INPUT: true; the input reads as it did. -/
def fnRootPlacesSpec : ChangeSpec := { name := "fnRootPlaces", fn := fun _ => fun
  | [d] => { results := [.lit (.bool true)], args := [d] }
  | _ => none }
def fnRootPlacesRow : OpenClaim := { program := "ytkoimmeghdbodaa", sum := "fb2d8c09c6f7e44e0cfbddff1ccd0293d6bbfa3698cdca5bea60052e4cf469f6", func := "loop.example/paling/laws.FnRootPlaces", spec := "fnRootPlaces", unfollowed := true, recurses := true, plainKeys := false, apart := false }
def FnRootPlacesSaid : Prop := fnRootPlacesRow.holds Try.pinned (OpenSpec.ofChange fnRootPlacesSpec)

/-- ITS FALSE NEIGHBOUR: 'it returns false'. Refute it at one input. -/
def fnRootPlacesWrong : ChangeSpec := { name := "fnRootPlaces", fn := fun _ => fun
  | [d] => { results := [.lit (.bool false)], args := [d] }
  | _ => none }
def FnRootPlacesWrongFalsely : Prop := fnRootPlacesRow.holds Try.pinned (OpenSpec.ofChange fnRootPlacesWrong)

/-- 'laws.FnExactRootPlaces': WHATEVER THE INPUT: true; the input reads as it did. -/
def fnExactRootPlacesSpec : ChangeSpec := { name := "fnExactRootPlaces", fn := fun _ => fun
  | [d1, d2] => { results := [.lit (.bool true)], args := [d1, d2] }
  | _ => none }
def fnExactRootPlacesRow : OpenClaim := { program := "ytkoimmeghdbodaa", sum := "fb2d8c09c6f7e44e0cfbddff1ccd0293d6bbfa3698cdca5bea60052e4cf469f6", func := "loop.example/paling/laws.FnExactRootPlaces", spec := "fnExactRootPlaces", unfollowed := true, recurses := true, plainKeys := false, apart := false }
def FnExactRootPlacesSaid : Prop := fnExactRootPlacesRow.holds Try.pinned (OpenSpec.ofChange fnExactRootPlacesSpec)

/-- ITS FALSE NEIGHBOUR: 'it returns false'. Refute it at one input. -/
def fnExactRootPlacesWrong : ChangeSpec := { name := "fnExactRootPlaces", fn := fun _ => fun
  | [d1, d2] => { results := [.lit (.bool false)], args := [d1, d2] }
  | _ => none }
def FnExactRootPlacesWrongFalsely : Prop := fnExactRootPlacesRow.holds Try.pinned (OpenSpec.ofChange fnExactRootPlacesWrong)

/-- 'laws.FnSpaceFree': WHATEVER THE INPUT: true; the input reads as it did. -/
def fnSpaceFreeSpec : ChangeSpec := { name := "fnSpaceFree", fn := fun _ => fun
  | [d] => { results := [.lit (.bool true)], args := [d] }
  | _ => none }
def fnSpaceFreeRow : OpenClaim := { program := "ytkoimmeghdbodaa", sum := "fb2d8c09c6f7e44e0cfbddff1ccd0293d6bbfa3698cdca5bea60052e4cf469f6", func := "loop.example/paling/laws.FnSpaceFree", spec := "fnSpaceFree", unfollowed := true, recurses := true, plainKeys := false, apart := false }
def FnSpaceFreeSaid : Prop := fnSpaceFreeRow.holds Try.pinned (OpenSpec.ofChange fnSpaceFreeSpec)

/-- ITS FALSE NEIGHBOUR: 'it returns false'. Refute it at one input. -/
def fnSpaceFreeWrong : ChangeSpec := { name := "fnSpaceFree", fn := fun _ => fun
  | [d] => { results := [.lit (.bool false)], args := [d] }
  | _ => none }
def FnSpaceFreeWrongFalsely : Prop := fnSpaceFreeRow.holds Try.pinned (OpenSpec.ofChange fnSpaceFreeWrong)

/-- 'laws.FnSpaceMore': WHATEVER THE INPUT: true; the input reads as it did. -/
def fnSpaceMoreSpec : ChangeSpec := { name := "fnSpaceMore", fn := fun _ => fun
  | [d] => { results := [.lit (.bool true)], args := [d] }
  | _ => none }
def fnSpaceMoreRow : OpenClaim := { program := "ytkoimmeghdbodaa", sum := "fb2d8c09c6f7e44e0cfbddff1ccd0293d6bbfa3698cdca5bea60052e4cf469f6", func := "loop.example/paling/laws.FnSpaceMore", spec := "fnSpaceMore", unfollowed := true, recurses := true, plainKeys := false, apart := false }
def FnSpaceMoreSaid : Prop := fnSpaceMoreRow.holds Try.pinned (OpenSpec.ofChange fnSpaceMoreSpec)

/-- ITS FALSE NEIGHBOUR: 'it returns false'. Refute it at one input. -/
def fnSpaceMoreWrong : ChangeSpec := { name := "fnSpaceMore", fn := fun _ => fun
  | [d] => { results := [.lit (.bool false)], args := [d] }
  | _ => none }
def FnSpaceMoreWrongFalsely : Prop := fnSpaceMoreRow.holds Try.pinned (OpenSpec.ofChange fnSpaceMoreWrong)

/-- 'laws.FnExactSpaceTake': WHATEVER THE INPUT: true; the input reads as it did. -/
def fnExactSpaceTakeSpec : ChangeSpec := { name := "fnExactSpaceTake", fn := fun _ => fun
  | [d1, d2, d3, d4] => { results := [.lit (.bool true)], args := [d1, d2, d3, d4] }
  | _ => none }
def fnExactSpaceTakeRow : OpenClaim := { program := "ytkoimmeghdbodaa", sum := "fb2d8c09c6f7e44e0cfbddff1ccd0293d6bbfa3698cdca5bea60052e4cf469f6", func := "loop.example/paling/laws.FnExactSpaceTake", spec := "fnExactSpaceTake", unfollowed := true, recurses := true, plainKeys := false, apart := false }
def FnExactSpaceTakeSaid : Prop := fnExactSpaceTakeRow.holds Try.pinned (OpenSpec.ofChange fnExactSpaceTakeSpec)

/-- ITS FALSE NEIGHBOUR: 'it returns false'. Refute it at one input. -/
def fnExactSpaceTakeWrong : ChangeSpec := { name := "fnExactSpaceTake", fn := fun _ => fun
  | [d1, d2, d3, d4] => { results := [.lit (.bool false)], args := [d1, d2, d3, d4] }
  | _ => none }
def FnExactSpaceTakeWrongFalsely : Prop := fnExactSpaceTakeRow.holds Try.pinned (OpenSpec.ofChange fnExactSpaceTakeWrong)

/-- 'laws.FnSpaceMost': WHATEVER THE INPUT: true; the input reads as it did. -/
def fnSpaceMostSpec : ChangeSpec := { name := "fnSpaceMost", fn := fun _ => fun
  | [d] => { results := [.lit (.bool true)], args := [d] }
  | _ => none }
def fnSpaceMostRow : OpenClaim := { program := "ytkoimmeghdbodaa", sum := "fb2d8c09c6f7e44e0cfbddff1ccd0293d6bbfa3698cdca5bea60052e4cf469f6", func := "loop.example/paling/laws.FnSpaceMost", spec := "fnSpaceMost", unfollowed := true, recurses := true, plainKeys := false, apart := false }
def FnSpaceMostSaid : Prop := fnSpaceMostRow.holds Try.pinned (OpenSpec.ofChange fnSpaceMostSpec)

/-- ITS FALSE NEIGHBOUR: 'it returns false'. Refute it at one input. -/
def fnSpaceMostWrong : ChangeSpec := { name := "fnSpaceMost", fn := fun _ => fun
  | [d] => { results := [.lit (.bool false)], args := [d] }
  | _ => none }
def FnSpaceMostWrongFalsely : Prop := fnSpaceMostRow.holds Try.pinned (OpenSpec.ofChange fnSpaceMostWrong)

/-- 'laws.FnSpaceTake': WHATEVER THE INPUT: true; the input reads as it did. -/
def fnSpaceTakeSpec : ChangeSpec := { name := "fnSpaceTake", fn := fun _ => fun
  | [d] => { results := [.lit (.bool true)], args := [d] }
  | _ => none }
def fnSpaceTakeRow : OpenClaim := { program := "ytkoimmeghdbodaa", sum := "fb2d8c09c6f7e44e0cfbddff1ccd0293d6bbfa3698cdca5bea60052e4cf469f6", func := "loop.example/paling/laws.FnSpaceTake", spec := "fnSpaceTake", unfollowed := true, recurses := true, plainKeys := false, apart := false }
def FnSpaceTakeSaid : Prop := fnSpaceTakeRow.holds Try.pinned (OpenSpec.ofChange fnSpaceTakeSpec)

/-- ITS FALSE NEIGHBOUR: 'it returns false'. Refute it at one input. -/
def fnSpaceTakeWrong : ChangeSpec := { name := "fnSpaceTake", fn := fun _ => fun
  | [d] => { results := [.lit (.bool false)], args := [d] }
  | _ => none }
def FnSpaceTakeWrongFalsely : Prop := fnSpaceTakeRow.holds Try.pinned (OpenSpec.ofChange fnSpaceTakeWrong)

/-- 'laws.FnExactSpaceFree': WHATEVER THE INPUT: true; the input reads as it did. -/
def fnExactSpaceFreeSpec : ChangeSpec := { name := "fnExactSpaceFree", fn := fun _ => fun
  | [d1, d2, d3] => { results := [.lit (.bool true)], args := [d1, d2, d3] }
  | _ => none }
def fnExactSpaceFreeRow : OpenClaim := { program := "ytkoimmeghdbodaa", sum := "fb2d8c09c6f7e44e0cfbddff1ccd0293d6bbfa3698cdca5bea60052e4cf469f6", func := "loop.example/paling/laws.FnExactSpaceFree", spec := "fnExactSpaceFree", unfollowed := true, recurses := true, plainKeys := false, apart := false }
def FnExactSpaceFreeSaid : Prop := fnExactSpaceFreeRow.holds Try.pinned (OpenSpec.ofChange fnExactSpaceFreeSpec)

/-- ITS FALSE NEIGHBOUR: 'it returns false'. Refute it at one input. -/
def fnExactSpaceFreeWrong : ChangeSpec := { name := "fnExactSpaceFree", fn := fun _ => fun
  | [d1, d2, d3] => { results := [.lit (.bool false)], args := [d1, d2, d3] }
  | _ => none }
def FnExactSpaceFreeWrongFalsely : Prop := fnExactSpaceFreeRow.holds Try.pinned (OpenSpec.ofChange fnExactSpaceFreeWrong)

/- THE SECOND FORM. 'bulk': how many values and letters a reading holds, each counted each time it is reached (what is shared counts as often as it is met; a slice's spare places count too). A statement '..UptoSaid' is the law's where the arguments, and the package variables that the reading takes, are together of bulk at most 1048576: NARROWER than '..Said'. Prove '..Said' where nothing that the law and all that it calls make is longer than what came in: it says more and counts as full. Else prove '..UptoSaid'. A law counts once. -/
mutual
def uptoBulk {H : Type} : DataW H → Nat
  | .lit (.string bytes) => bytes.length + 1
  | .lit _ => 1
  | .nil => 1
  | .ptr d => uptoBulk d + 1
  | .slice elems spare => uptoBulkAll elems + uptoBulkAll spare + 1
  | .agg parts => uptoBulkAll parts + 1
  | .iface _ d => uptoBulk d + 1
  | .map entries => uptoBulkEntries entries + 1
  | .held _ => 1
def uptoBulkAll {H : Type} : List (DataW H) → Nat
  | [] => 0
  | d :: r => uptoBulk d + uptoBulkAll r
def uptoBulkEntries {H : Type} : List (Lit × DataW H) → Nat
  | [] => 0
  | x :: r => uptoBulkEntry x + uptoBulkEntries r
def uptoBulkEntry {H : Type} : Lit × DataW H → Nat
  | (.string bytes, d) => bytes.length + uptoBulk d + 1
  | (_, d) => uptoBulk d + 1
 end
def uptoSmall : (H : Type) → List (DataW H) → Bool := fun _ ds => decide (uptoBulkAll ds ≤ 1048576)
def OpenSpec.upto (s : _root_.Go.ChangeSpec) : _root_.Go.OpenSpec := { _root_.Go.OpenSpec.ofChange s with cond := some uptoSmall }

/-- 'laws.FnExactPtrOk', WHERE WHAT IT READS IS OF BULK AT MOST 1048576: true; the input reads as it did. -/
def fnExactPtrOkUptoRow : OpenClaim := { program := "ytkoimmeghdbodaa", sum := "fb2d8c09c6f7e44e0cfbddff1ccd0293d6bbfa3698cdca5bea60052e4cf469f6", func := "loop.example/paling/laws.FnExactPtrOk", spec := "fnExactPtrOk", unfollowed := true, recurses := true, plainKeys := false, apart := false, narrowed := true }
def FnExactPtrOkUptoSaid : Prop := fnExactPtrOkUptoRow.holds Try.pinned (OpenSpec.upto fnExactPtrOkSpec)

/-- 'laws.FnPtrApart', WHERE WHAT IT READS IS OF BULK AT MOST 1048576: true; the input reads as it did. -/
def fnPtrApartUptoRow : OpenClaim := { program := "ytkoimmeghdbodaa", sum := "fb2d8c09c6f7e44e0cfbddff1ccd0293d6bbfa3698cdca5bea60052e4cf469f6", func := "loop.example/paling/laws.FnPtrApart", spec := "fnPtrApart", unfollowed := true, recurses := true, plainKeys := false, apart := false, narrowed := true }
def FnPtrApartUptoSaid : Prop := fnPtrApartUptoRow.holds Try.pinned (OpenSpec.upto fnPtrApartSpec)

/-- 'laws.FnStripePtr', WHERE WHAT IT READS IS OF BULK AT MOST 1048576: true; the input reads as it did. -/
def fnStripePtrUptoRow : OpenClaim := { program := "ytkoimmeghdbodaa", sum := "fb2d8c09c6f7e44e0cfbddff1ccd0293d6bbfa3698cdca5bea60052e4cf469f6", func := "loop.example/paling/laws.FnStripePtr", spec := "fnStripePtr", unfollowed := true, recurses := true, plainKeys := false, apart := false, narrowed := true }
def FnStripePtrUptoSaid : Prop := fnStripePtrUptoRow.holds Try.pinned (OpenSpec.upto fnStripePtrSpec)

/-- 'laws.FnExactStripePtr', WHERE WHAT IT READS IS OF BULK AT MOST 1048576: true; the input reads as it did. -/
def fnExactStripePtrUptoRow : OpenClaim := { program := "ytkoimmeghdbodaa", sum := "fb2d8c09c6f7e44e0cfbddff1ccd0293d6bbfa3698cdca5bea60052e4cf469f6", func := "loop.example/paling/laws.FnExactStripePtr", spec := "fnExactStripePtr", unfollowed := true, recurses := true, plainKeys := false, apart := false, narrowed := true }
def FnExactStripePtrUptoSaid : Prop := fnExactStripePtrUptoRow.holds Try.pinned (OpenSpec.upto fnExactStripePtrSpec)

/-- 'laws.FnExactRootOk', WHERE WHAT IT READS IS OF BULK AT MOST 1048576: true; the input reads as it did. -/
def fnExactRootOkUptoRow : OpenClaim := { program := "ytkoimmeghdbodaa", sum := "fb2d8c09c6f7e44e0cfbddff1ccd0293d6bbfa3698cdca5bea60052e4cf469f6", func := "loop.example/paling/laws.FnExactRootOk", spec := "fnExactRootOk", unfollowed := true, recurses := true, plainKeys := false, apart := false, narrowed := true }
def FnExactRootOkUptoSaid : Prop := fnExactRootOkUptoRow.holds Try.pinned (OpenSpec.upto fnExactRootOkSpec)

/-- 'laws.FnRootLess', WHERE WHAT IT READS IS OF BULK AT MOST 1048576: true; the input reads as it did. -/
def fnRootLessUptoRow : OpenClaim := { program := "ytkoimmeghdbodaa", sum := "fb2d8c09c6f7e44e0cfbddff1ccd0293d6bbfa3698cdca5bea60052e4cf469f6", func := "loop.example/paling/laws.FnRootLess", spec := "fnRootLess", unfollowed := true, recurses := true, plainKeys := false, apart := false, narrowed := true }
def FnRootLessUptoSaid : Prop := fnRootLessUptoRow.holds Try.pinned (OpenSpec.upto fnRootLessSpec)

/-- 'laws.FnRootPlaces', WHERE WHAT IT READS IS OF BULK AT MOST 1048576: true; the input reads as it did. -/
def fnRootPlacesUptoRow : OpenClaim := { program := "ytkoimmeghdbodaa", sum := "fb2d8c09c6f7e44e0cfbddff1ccd0293d6bbfa3698cdca5bea60052e4cf469f6", func := "loop.example/paling/laws.FnRootPlaces", spec := "fnRootPlaces", unfollowed := true, recurses := true, plainKeys := false, apart := false, narrowed := true }
def FnRootPlacesUptoSaid : Prop := fnRootPlacesUptoRow.holds Try.pinned (OpenSpec.upto fnRootPlacesSpec)

/-- 'laws.FnExactRootPlaces', WHERE WHAT IT READS IS OF BULK AT MOST 1048576: true; the input reads as it did. -/
def fnExactRootPlacesUptoRow : OpenClaim := { program := "ytkoimmeghdbodaa", sum := "fb2d8c09c6f7e44e0cfbddff1ccd0293d6bbfa3698cdca5bea60052e4cf469f6", func := "loop.example/paling/laws.FnExactRootPlaces", spec := "fnExactRootPlaces", unfollowed := true, recurses := true, plainKeys := false, apart := false, narrowed := true }
def FnExactRootPlacesUptoSaid : Prop := fnExactRootPlacesUptoRow.holds Try.pinned (OpenSpec.upto fnExactRootPlacesSpec)

/-- 'laws.FnSpaceFree', WHERE WHAT IT READS IS OF BULK AT MOST 1048576: true; the input reads as it did. -/
def fnSpaceFreeUptoRow : OpenClaim := { program := "ytkoimmeghdbodaa", sum := "fb2d8c09c6f7e44e0cfbddff1ccd0293d6bbfa3698cdca5bea60052e4cf469f6", func := "loop.example/paling/laws.FnSpaceFree", spec := "fnSpaceFree", unfollowed := true, recurses := true, plainKeys := false, apart := false, narrowed := true }
def FnSpaceFreeUptoSaid : Prop := fnSpaceFreeUptoRow.holds Try.pinned (OpenSpec.upto fnSpaceFreeSpec)

/-- 'laws.FnSpaceMore', WHERE WHAT IT READS IS OF BULK AT MOST 1048576: true; the input reads as it did. -/
def fnSpaceMoreUptoRow : OpenClaim := { program := "ytkoimmeghdbodaa", sum := "fb2d8c09c6f7e44e0cfbddff1ccd0293d6bbfa3698cdca5bea60052e4cf469f6", func := "loop.example/paling/laws.FnSpaceMore", spec := "fnSpaceMore", unfollowed := true, recurses := true, plainKeys := false, apart := false, narrowed := true }
def FnSpaceMoreUptoSaid : Prop := fnSpaceMoreUptoRow.holds Try.pinned (OpenSpec.upto fnSpaceMoreSpec)

/-- 'laws.FnExactSpaceTake', WHERE WHAT IT READS IS OF BULK AT MOST 1048576: true; the input reads as it did. -/
def fnExactSpaceTakeUptoRow : OpenClaim := { program := "ytkoimmeghdbodaa", sum := "fb2d8c09c6f7e44e0cfbddff1ccd0293d6bbfa3698cdca5bea60052e4cf469f6", func := "loop.example/paling/laws.FnExactSpaceTake", spec := "fnExactSpaceTake", unfollowed := true, recurses := true, plainKeys := false, apart := false, narrowed := true }
def FnExactSpaceTakeUptoSaid : Prop := fnExactSpaceTakeUptoRow.holds Try.pinned (OpenSpec.upto fnExactSpaceTakeSpec)

/-- 'laws.FnSpaceMost', WHERE WHAT IT READS IS OF BULK AT MOST 1048576: true; the input reads as it did. -/
def fnSpaceMostUptoRow : OpenClaim := { program := "ytkoimmeghdbodaa", sum := "fb2d8c09c6f7e44e0cfbddff1ccd0293d6bbfa3698cdca5bea60052e4cf469f6", func := "loop.example/paling/laws.FnSpaceMost", spec := "fnSpaceMost", unfollowed := true, recurses := true, plainKeys := false, apart := false, narrowed := true }
def FnSpaceMostUptoSaid : Prop := fnSpaceMostUptoRow.holds Try.pinned (OpenSpec.upto fnSpaceMostSpec)

/-- 'laws.FnSpaceTake', WHERE WHAT IT READS IS OF BULK AT MOST 1048576: true; the input reads as it did. -/
def fnSpaceTakeUptoRow : OpenClaim := { program := "ytkoimmeghdbodaa", sum := "fb2d8c09c6f7e44e0cfbddff1ccd0293d6bbfa3698cdca5bea60052e4cf469f6", func := "loop.example/paling/laws.FnSpaceTake", spec := "fnSpaceTake", unfollowed := true, recurses := true, plainKeys := false, apart := false, narrowed := true }
def FnSpaceTakeUptoSaid : Prop := fnSpaceTakeUptoRow.holds Try.pinned (OpenSpec.upto fnSpaceTakeSpec)

/-- 'laws.FnExactSpaceFree', WHERE WHAT IT READS IS OF BULK AT MOST 1048576: true; the input reads as it did. -/
def fnExactSpaceFreeUptoRow : OpenClaim := { program := "ytkoimmeghdbodaa", sum := "fb2d8c09c6f7e44e0cfbddff1ccd0293d6bbfa3698cdca5bea60052e4cf469f6", func := "loop.example/paling/laws.FnExactSpaceFree", spec := "fnExactSpaceFree", unfollowed := true, recurses := true, plainKeys := false, apart := false, narrowed := true }
def FnExactSpaceFreeUptoSaid : Prop := fnExactSpaceFreeUptoRow.holds Try.pinned (OpenSpec.upto fnExactSpaceFreeSpec)

end Rows
end Go.Proofs.Ytkoimmeghdbodaa
