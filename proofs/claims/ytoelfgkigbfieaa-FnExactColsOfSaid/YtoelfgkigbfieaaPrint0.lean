-- Printed by a program of this session (after the kit's printer) out of the translation; Lean checks it.
import Derived.Test.YtoelfgkigbfieaaProg
import Derived.Below
import Derived.Deep.Draws
import Derived.Deep.AppendLies
import Derived.Maps.AppendAt
import Derived.OwnWalk
import Derived.Laws.BytesArg
import Derived.Laws.MakeOwn
import Derived.Laws.OwnMore
import Derived.Deep.OwnRows
import Derived.Tactics
import Derived.Lib.ConvBytes
import Derived.Laws.Slices
import Derived.WalkKit
import Derived.KernelRfl
import Derived.RowKit3
import Derived.Deep.LoopGhost
import Derived.Deep.QuietTactic
import Derived.BigQuiet
import Derived.WideLaws
import Derived.Deep.DeepCutAuto
import Derived.Deep.CutBlock
import Derived.Deep.RegionHeld3
import Derived.Laws.Rows
import Derived.Lib.AppendStr
import Derived.ArgAppend
import Derived.Laws.IdiomCopy
import Derived.OrdersHeld
import Derived.Laws.BitsLemmas
import Derived.RowKit
import Derived.Test.YtoelfgkigbfieaaWWords
import Derived.Test.YtoelfgkigbfieaaWLast
import Derived.Test.YtoelfgkigbfieaaWTab
import Derived.Test.YtoelfgkigbfieaaWFour
import Derived.Test.YtoelfgkigbfieaaWQPut
import Derived.Test.YtoelfgkigbfieaaWApart
import Derived.Test.YtoelfgkigbfieaaWArr
import Derived.Test.YtoelfgkigbfieaaWZeros
import Derived.Test.YtoelfgkigbfieaaWFoot
import Derived.Test.YtoelfgkigbfieaaWKept
import Derived.Test.YtoelfgkigbfieaaWShare
import Derived.Test.YtoelfgkigbfieaaWN
import Derived.Test.YtoelfgkigbfieaaWFootNe
import Derived.Test.YtoelfgkigbfieaaWAt
import Derived.Test.YtoelfgkigbfieaaWEqStruct
import Derived.Test.YtoelfgkigbfieaaWRepsOne
import Derived.Test.YtoelfgkigbfieaaWInv
import Derived.Test.YtoelfgkigbfieaaWInvWords
import Derived.Test.YtoelfgkigbfieaaWGuard
import Derived.Test.YtoelfgkigbfieaaWNEv
import Derived.Test.YtoelfgkigbfieaaWMore
namespace Go.Proofs.Ytoelfgkigbfieaa.Print
open Go.RowKit Go.Proofs.YtoelfgkigbfieaaW.PrintWords Go.Proofs.YtoelfgkigbfieaaW.PrintLast Go.Proofs.YtoelfgkigbfieaaW.PrintMore
attribute [local go_sem] max2_int min2_int max_two min_two max_three min_three max_four min_four   -- for this text's walks alone
set_option linter.unusedVariables false
set_option linter.unusedSimpArgs false



def errW : Option Int → Value
  | none => .nilIface
  | some c => .iface 0 (.int .i64 c)
theorem errW_none : errW none = .nilIface := rfl
theorem errW_some (c : Int) : errW (some c) = .iface 0 (.int .i64 c) := rfl

theorem info5 : (Try.prog.info? 5).map (fun i => (i.zero, i.size, i.bytes)) = some (some (.int .u8 0), 1, 1) := by kernel_rfl
theorem info9 : (Try.prog.info? 9).map (fun i => (i.zero, i.size, i.bytes)) = some (some (.string ⟨#[]⟩), 1, 16) := by kernel_rfl
-- the values' own types

end Go.Proofs.Ytoelfgkigbfieaa.Print
