/- Proved: each argument type of the laws, opened by its kind. Conditions: none. Printed by rowgen.py, a program of this session. -/
import Derived.Test.YtoelfgkigbfieaaPrint0
import Derived.Test.YtoelfgkigbfieaaTake
namespace Go.Proofs.Ytoelfgkigbfieaa.Take
open Go.RowKit Go.Proofs.Ytoelfgkigbfieaa.Print Go.Proofs.YtoelfgkigbfieaaW.PrintWords
def W9 (x : ByteArray) : Prop := x.size ≤ maxLen
theorem o9 : Opens Try.prog 9 Kd.string W9 := Opens.string (by kernel_rfl) (by kernel_rfl)
def W34 (x : (List ByteArray)) : Prop := x.length ≤ maxLen ∧ ∀ y ∈ x, W9 y
theorem o34 : Opens Try.prog 34 (Kd.slice 9 Kd.string) W34 := Opens.slice Try.underlying34 (by kernel_rfl) o9
def W3 (x : Int) : Prop := (Lit.int .i64 x).wf = true
theorem o3 : Opens Try.prog 3 (Kd.int .i64) W3 := Opens.int (by kernel_rfl) (by kernel_rfl)
end Go.Proofs.Ytoelfgkigbfieaa.Take
