/- Proved: the law FnExactMendOf answers true. Conditions: those of the statement's row alone. -/
import Derived.Test.YtoelfgkigbfieaaStrs
import Derived.Test.YtoelfgkigbfieaaOpens
import Derived.Test.YtoelfgkigbfieaaPrint19
namespace Go.Proofs.Ytoelfgkigbfieaa.Pure
open Go.RowKit Go.Proofs.Ytoelfgkigbfieaa.Print Go.Proofs.YtoelfgkigbfieaaW.PrintWords

theorem FnExactMendOf (l : List ByteArray) (p : ByteArray) (a : Int) (hw : Take.W34 l) (_ : p.size ≤ 140737488351232) (_ : (Lit.int .i64 a).wf = true) : ∃ k, laws_FnExactMendOf.f k l p a = some true := by
  apply Ev.rounds
  obtain ⟨t, ht, hl⟩ := szStringS_ev l hw.1 hw.2
  unfold laws_FnExactMendOf.f
  refine Ev.ite (fun _ => Ev.ret rfl) (fun _ => Ev.bind ht (Ev.ite (fun _ => Ev.ret rfl) (fun h => ?_)))
  have hl := hl h
  refine Ev.bind (toStringS_ev l hl) (Ev.bind (specMend_ev l p a) (Ev.bind (toStringS_ev l hl) (Ev.bind (implMend_ev l p a) (Ev.pos rfl (Ev.next ?_)))))
  simp only [laws_FnExactMendOf.j0]
  exact Ev.neg (by simp) (Ev.bind (toStringS_ev l hl) (Ev.bind (eqStringS_ev l hl) (Ev.pos rfl (Ev.ret rfl))))
end Go.Proofs.Ytoelfgkigbfieaa.Pure
