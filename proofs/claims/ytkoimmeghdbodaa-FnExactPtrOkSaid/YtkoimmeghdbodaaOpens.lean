/- Proved: each argument type of the laws, opened by its kind. Conditions: none. Printed by rowgen.py, a program of this session. -/
import Derived.Test.YtkoimmeghdbodaaPrint0
import Derived.Test.YtkoimmeghdbodaaTake
namespace Go.Proofs.Ytkoimmeghdbodaa.Take
open Go.RowKit Go.Proofs.Ytkoimmeghdbodaa.Print Go.Proofs.YtkoimmeghdbodaaW.PrintWords
def W3 (x : Int) : Prop := (Lit.int .i64 x).wf = true
theorem o3 : Opens Try.prog 3 (Kd.int .i64) W3 := Opens.int (by kernel_rfl) (by kernel_rfl)
def W94 (x : S94) : Prop := W3 x.f0 ∧ W3 x.f1
theorem o94 : Opens Try.prog 94 k94 W94 := Opens.iso _ (fun p => (⟨p.1, p.2⟩ : S94)) (fun _ => rfl) (Opens.struct Try.underlying94 (by kernel_rfl) (Tail.cons _ rfl rfl o3 (Tail.last _ rfl rfl o3)))
def W22 (x : (List S94)) : Prop := x.length ≤ maxLen ∧ ∀ y ∈ x, W94 y
theorem o22 : Opens Try.prog 22 (Kd.slice 94 k94) W22 := Opens.slice Try.underlying22 (by kernel_rfl) o94
structure S24 where
  f0 : Int
  f1 : Int
  f2 : (List S94)
def k24 : Kd S24 := Kd.iso (Kd.pair (Kd.int .i64) (Kd.pair (Kd.int .i64) (Kd.slice 94 k94))) (fun x : S24 => (x.f0, x.f1, x.f2))
theorem k24_open {w : World} {x : S24} {cs : List Value} (h : k24.K w x cs) : ∃ A2 c2, cs = [.int .i64 x.f0, .int .i64 x.f1, .slice A2 x.f2.length c2] ∧ x.f2.length ≤ c2 ∧ Kd.C k94 w A2 x.f2.length x.f2 := by
  obtain ⟨_, _, rfl, rfl, ⟨_, _, rfl, rfl, ⟨A2, c2, rfl, l2, g2⟩⟩⟩ := h
  exact ⟨A2, c2, rfl, l2, g2⟩
def W24 (x : S24) : Prop := W3 x.f0 ∧ W3 x.f1 ∧ W22 x.f2
theorem o24 : Opens Try.prog 24 k24 W24 := Opens.iso _ (fun p => (⟨p.1, p.2.1, p.2.2⟩ : S24)) (fun _ => rfl) (Opens.struct Try.underlying24 (by kernel_rfl) (Tail.cons _ rfl rfl o3 (Tail.cons _ rfl rfl o3 (Tail.last _ rfl rfl o22))))
def W9 (x : ByteArray) : Prop := x.size ≤ maxLen
theorem o9 : Opens Try.prog 9 Kd.string W9 := Opens.string (by kernel_rfl) (by kernel_rfl)
end Go.Proofs.Ytkoimmeghdbodaa.Take
