/- Proved: the law FnExactSumOf (the program's SumOf returns what the reference's returns) answers true. Conditions: those of the statement's row alone. -/
import Derived.Test.YtoelfgkigbfieaaSum
import Derived.Test.YtoelfgkigbfieaaPrint6
namespace Go.Proofs.Ytoelfgkigbfieaa.Pure
open Go.RowKit Go.Proofs.Ytoelfgkigbfieaa.Print Go.Proofs.YtoelfgkigbfieaaW.PrintWords

theorem FnExactSumOf : laws_FnExactSumOf.Pure := by
  intro s _
  apply Ev.rounds
  unfold laws_FnExactSumOf.f
  exact Ev.ite (fun _ => Ev.ret rfl) (fun _ => Ev.bind (specSum_ev s) (Ev.take (implSum_eq s) (Ev.pos rfl (Ev.ret rfl))))
end Go.Proofs.Ytoelfgkigbfieaa.Pure
