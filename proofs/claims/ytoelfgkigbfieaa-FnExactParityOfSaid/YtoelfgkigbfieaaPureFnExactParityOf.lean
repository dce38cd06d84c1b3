/- Proved: the law FnExactParityOf answers true. Conditions: those of the statement's row alone. -/
import Derived.Test.YtoelfgkigbfieaaStrs
import Derived.Test.YtoelfgkigbfieaaOpens
import Derived.Test.YtoelfgkigbfieaaPrint22
namespace Go.Proofs.Ytoelfgkigbfieaa.Pure
open Go.RowKit Go.Proofs.Ytoelfgkigbfieaa.Print Go.Proofs.YtoelfgkigbfieaaW.PrintWords

theorem FnExactParityOf (l : List ByteArray) (hw : Take.W34 l) : ∃ k, laws_FnExactParityOf.f k l = some true := by
  apply Ev.rounds
  obtain ⟨t, ht, hl⟩ := szStringS_ev l hw.1 hw.2
  unfold laws_FnExactParityOf.f
  refine Ev.bind ht (Ev.ite (fun _ => Ev.ret rfl) (fun h => ?_))
  have hl := hl h
  exact Ev.bind (toStringS_ev l hl) (Ev.bind (specPar_ev l (by omega)) (Ev.bind (toStringS_ev l hl) (Ev.bind (implPar_ev l) (Ev.pos rfl (Ev.bind (toStringS_ev l hl) (Ev.bind (eqStringS_ev l hl) (Ev.pos rfl (Ev.ret rfl))))))))
end Go.Proofs.Ytoelfgkigbfieaa.Pure
