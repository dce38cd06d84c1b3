/-
  DERIVED. GIVEN WITH THE SEED: THE CARDS: each row of YtoelfgkigbfieaaDoorRows.lean that lists a variable, with what it lists TIED to the program's text (the seventh form; the later family's looks); each row that meets fmt, with fmt's text TOLD by the authors' own Lean function (tested against real Go, not proved from fmt's source: count such statements apart). THE CARD IS WHAT COUNTS. Prove the row's statement (the work); the ties are given (YtoelfgkigbfieaaDoorTie.lean); close each card by the builder's one call (the guide's Derived/Test/ToyasCard.lean, 'card_holds'). Laid BY PROGRAM, IN A SANDBOX (cutbox-door.mjs). By AI agents, Wed Nov 11 2026. No macro, syntax, notation, axiom, sorry.
-/
import Derived.Test.YtoelfgkigbfieaaDoorRows
import GoSem.ClaimSeven
namespace Go.Proofs.YtoelfgkigbfieaaDoor
namespace Rows

/-- THE TIED CARD OF 'laws.FnExactTextOf'. -/
def fnExactTextOfCard : Claim7 := { stood := { row := fnExactTextOfRow, standIns := [], harness := (true, "18c283747083eeeb9865163d5c61e0954793732bd3fb193052f7245a7505521e"), looks := false }, kinds := [], alts := [], laidByText := true, laidKinds := [.data, .pinned], laidTests := true, laidLooks := .later }
def FnExactTextOfCardSaid : Prop := Claim7.holds Tryd.pinned (.plain (OpenSpec.ofChange fnExactTextOfSpec)) fnExactTextOfCard

/-- THE TIED CARD OF 'laws.FnColsBack'. -/
def fnColsBackCard : Claim7 := { stood := { row := fnColsBackRow, standIns := [], harness := (true, "18c283747083eeeb9865163d5c61e0954793732bd3fb193052f7245a7505521e"), looks := false }, kinds := [], alts := [], laidByText := true, laidKinds := [.data, .pinned], laidTests := true, laidLooks := .later }
def FnColsBackCardSaid : Prop := Claim7.holds Tryd.pinned (.plain (OpenSpec.ofChange fnColsBackSpec)) fnColsBackCard

/-- THE TIED CARD OF 'laws.FnColsStrict'. -/
def fnColsStrictCard : Claim7 := { stood := { row := fnColsStrictRow, standIns := [], harness := (true, "18c283747083eeeb9865163d5c61e0954793732bd3fb193052f7245a7505521e"), looks := false }, kinds := [], alts := [], laidByText := true, laidKinds := [.data, .pinned], laidTests := true, laidLooks := .later }
def FnColsStrictCardSaid : Prop := Claim7.holds Tryd.pinned (.plain (OpenSpec.ofChange fnColsStrictSpec)) fnColsStrictCard

/-- THE SECOND FORM's CARD OF 'laws.FnExactTextOf'. -/
def fnExactTextOfUptoCard : Claim7 := { stood := { row := fnExactTextOfUptoRow, standIns := [], harness := (true, "18c283747083eeeb9865163d5c61e0954793732bd3fb193052f7245a7505521e"), looks := false }, kinds := [], alts := [], laidByText := true, laidKinds := [.data, .pinned], laidTests := true, laidLooks := .later }
def FnExactTextOfUptoCardSaid : Prop := Claim7.holds Tryd.pinned (.plain (OpenSpec.upto fnExactTextOfSpec)) fnExactTextOfUptoCard

/-- THE SECOND FORM's CARD OF 'laws.FnColsBack'. -/
def fnColsBackUptoCard : Claim7 := { stood := { row := fnColsBackUptoRow, standIns := [], harness := (true, "18c283747083eeeb9865163d5c61e0954793732bd3fb193052f7245a7505521e"), looks := false }, kinds := [], alts := [], laidByText := true, laidKinds := [.data, .pinned], laidTests := true, laidLooks := .later }
def FnColsBackUptoCardSaid : Prop := Claim7.holds Tryd.pinned (.plain (OpenSpec.upto fnColsBackSpec)) fnColsBackUptoCard

/-- THE SECOND FORM's CARD OF 'laws.FnColsStrict'. -/
def fnColsStrictUptoCard : Claim7 := { stood := { row := fnColsStrictUptoRow, standIns := [], harness := (true, "18c283747083eeeb9865163d5c61e0954793732bd3fb193052f7245a7505521e"), looks := false }, kinds := [], alts := [], laidByText := true, laidKinds := [.data, .pinned], laidTests := true, laidLooks := .later }
def FnColsStrictUptoCardSaid : Prop := Claim7.holds Tryd.pinned (.plain (OpenSpec.upto fnColsStrictSpec)) fnColsStrictUptoCard
end Rows
end Go.Proofs.YtoelfgkigbfieaaDoor
