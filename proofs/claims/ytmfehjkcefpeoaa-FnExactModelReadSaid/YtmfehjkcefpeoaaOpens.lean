/- Proved: each argument type of the laws, opened by its kind. Conditions: none. Printed by rowgen.py, a program of this session. -/
import Derived.Test.YtmfehjkcefpeoaaPrint0
import Derived.Test.YtmfehjkcefpeoaaTake
namespace Go.Proofs.Ytmfehjkcefpeoaa.Take
open Go.RowKit Go.Proofs.Ytmfehjkcefpeoaa.Print Go.Proofs.YtmfehjkcefpeoaaW.PrintWords
def W9 (x : ByteArray) : Prop := x.size ≤ maxLen
theorem o9 : Opens Try.prog 9 Kd.string W9 := Opens.string (by kernel_rfl) (by kernel_rfl)
def W37 (x : (List ByteArray)) : Prop := x.length ≤ maxLen ∧ ∀ y ∈ x, W9 y
theorem o37 : Opens Try.prog 37 (Kd.slice 9 Kd.string) W37 := Opens.slice Try.underlying37 (by kernel_rfl) o9
def W58 (x : S58) : Prop := W9 x.f0 ∧ W37 x.f1
theorem o58 : Opens Try.prog 58 k58 W58 := Opens.iso _ (fun p => (⟨p.1, p.2⟩ : S58)) (fun _ => rfl) (Opens.struct Try.underlying58 (by kernel_rfl) (Tail.cons _ rfl rfl o9 (Tail.last _ rfl rfl o37)))
def W22 (x : (List S58)) : Prop := x.length ≤ maxLen ∧ ∀ y ∈ x, W58 y
theorem o22 : Opens Try.prog 22 (Kd.slice 58 k58) W22 := Opens.slice Try.underlying22 (by kernel_rfl) o58
structure S24 where
  f0 : (List S58)
def k24 : Kd S24 := Kd.iso (Kd.slice 58 k58) (fun x : S24 => (x.f0))
theorem k24_open {w : World} {x : S24} {cs : List Value} (h : k24.K w x cs) : ∃ A0 c0, cs = [.slice A0 x.f0.length c0] ∧ x.f0.length ≤ c0 ∧ Kd.C k58 w A0 x.f0.length x.f0 := by
  obtain ⟨A0, c0, rfl, l0, g0⟩ := h
  exact ⟨A0, c0, rfl, l0, g0⟩
def W24 (x : S24) : Prop := W22 x.f0
theorem o24 : Opens Try.prog 24 k24 W24 := Opens.iso _ (fun p => (⟨p⟩ : S24)) (fun _ => rfl) (Opens.struct Try.underlying24 (by kernel_rfl) (Tail.last _ rfl rfl o22))
def W3 (x : Int) : Prop := (Lit.int .i64 x).wf = true
theorem o3 : Opens Try.prog 3 (Kd.int .i64) W3 := Opens.int (by kernel_rfl) (by kernel_rfl)
end Go.Proofs.Ytmfehjkcefpeoaa.Take
