/- Proved: each argument type of the laws, opened by its kind. Conditions: none. Printed by rowgen.py, a program of this session. -/
import Derived.Test.YtoelfgkigbfieaaDoorPrint0
import Derived.Test.YtoelfgkigbfieaaDoorTake
namespace Go.Proofs.YtoelfgkigbfieaaDoor.Take
open Go.RowKit Go.Proofs.YtoelfgkigbfieaaDoor.Print Go.Proofs.YtoelfgkigbfieaaDoorW.PrintWords
def W9 (x : ByteArray) : Prop := x.size ≤ maxLen
theorem o9 : Opens Tryd.prog 9 Kd.string W9 := Opens.string (by kernel_rfl) (by kernel_rfl)
def W22 (x : (List ByteArray)) : Prop := x.length ≤ maxLen ∧ ∀ y ∈ x, W9 y
theorem o22 : Opens Tryd.prog 22 (Kd.slice 9 Kd.string) W22 := Opens.slice Tryd.underlying22 (by kernel_rfl) o9
def W3 (x : Int) : Prop := (Lit.int .i64 x).wf = true
theorem o3 : Opens Tryd.prog 3 (Kd.int .i64) W3 := Opens.int (by kernel_rfl) (by kernel_rfl)
end Go.Proofs.YtoelfgkigbfieaaDoor.Take
