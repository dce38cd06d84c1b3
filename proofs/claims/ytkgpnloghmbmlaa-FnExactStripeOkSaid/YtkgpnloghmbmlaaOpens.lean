/- Proved: each argument type of the laws, opened by its kind. Conditions: none. Printed by rowgen.py, a program of this session. -/
import Derived.Test.YtkgpnloghmbmlaaPrint0
import Derived.Test.YtkgpnloghmbmlaaTake
namespace Go.Proofs.Ytkgpnloghmbmlaa.Take
open Go.RowKit Go.Proofs.Ytkgpnloghmbmlaa.Print Go.Proofs.YtkgpnloghmbmlaaW.PrintWords
def W3 (x : Int) : Prop := (Lit.int .i64 x).wf = true
theorem o3 : Opens Try.prog 3 (Kd.int .i64) W3 := Opens.int (by kernel_rfl) (by kernel_rfl)
def W9 (x : ByteArray) : Prop := x.size ≤ maxLen
theorem o9 : Opens Try.prog 9 Kd.string W9 := Opens.string (by kernel_rfl) (by kernel_rfl)
def W24 (x : (List ByteArray)) : Prop := x.length ≤ maxLen ∧ ∀ y ∈ x, W9 y
theorem o24 : Opens Try.prog 24 (Kd.slice 9 Kd.string) W24 := Opens.slice Try.underlying24 (by kernel_rfl) o9
def W4 (_ : Bool) : Prop := True
theorem o4 : Opens Try.prog 4 Kd.bool W4 := Opens.bool (by kernel_rfl) (by kernel_rfl)
def W25 (x : (List Bool)) : Prop := x.length ≤ maxLen ∧ ∀ y ∈ x, W4 y
theorem o25 : Opens Try.prog 25 (Kd.slice 4 Kd.bool) W25 := Opens.slice Try.underlying25 (by kernel_rfl) o4
def W65 (x : S65) : Prop := W4 x.f0 ∧ W3 x.f1 ∧ W9 x.f2
theorem o65 : Opens Try.prog 65 k65 W65 := Opens.iso _ (fun p => (⟨p.1, p.2.1, p.2.2⟩ : S65)) (fun _ => rfl) (Opens.struct Try.underlying65 (by kernel_rfl) (Tail.cons _ rfl rfl o4 (Tail.cons _ rfl rfl o3 (Tail.last _ rfl rfl o9))))
def W37 (x : (List S65)) : Prop := x.length ≤ maxLen ∧ ∀ y ∈ x, W65 y
theorem o37 : Opens Try.prog 37 (Kd.slice 65 k65) W37 := Opens.slice Try.underlying37 (by kernel_rfl) o65
def W39 (x : S39) : Prop := W3 x.f0 ∧ W24 x.f1 ∧ W24 x.f2 ∧ W25 x.f3 ∧ W37 x.f4
theorem o39 : Opens Try.prog 39 k39 W39 := Opens.iso _ (fun p => (⟨p.1, p.2.1, p.2.2.1, p.2.2.2.1, p.2.2.2.2⟩ : S39)) (fun _ => rfl) (Opens.struct Try.underlying39 (by kernel_rfl) (Tail.cons _ rfl rfl o3 (Tail.cons _ rfl rfl o24 (Tail.cons _ rfl rfl o24 (Tail.cons _ rfl rfl o25 (Tail.last _ rfl rfl o37))))))
def W44 (x : (List S39)) : Prop := x.length ≤ maxLen ∧ ∀ y ∈ x, W39 y
theorem o44 : Opens Try.prog 44 (Kd.slice 39 k39) W44 := Opens.slice Try.underlying44 (by kernel_rfl) o39
end Go.Proofs.Ytkgpnloghmbmlaa.Take
