/- Proved: the law FnExactXorOf (the program's XorOf returns what the reference's returns) answers true. Conditions: those of the statement's row alone. -/
import Derived.Test.YtoelfgkigbfieaaXor
import Derived.Test.YtoelfgkigbfieaaPrint14
namespace Go.Proofs.Ytoelfgkigbfieaa.Pure
open Go.RowKit Go.Proofs.Ytoelfgkigbfieaa.Print Go.Proofs.YtoelfgkigbfieaaW.PrintWords

theorem FnExactXorOf : laws_FnExactXorOf.Pure := by
  intro a b _ _
  apply Ev.rounds
  unfold laws_FnExactXorOf.f
  refine Ev.ite (fun _ => Ev.ret rfl) (fun h1 => Ev.ite (fun _ => Ev.ret rfl) (fun h2 => ?_))
  exact Ev.bind (specXor_ev a b (by omega) (by omega)) (Ev.take (implXor_eq a b (by omega) (by omega)) (Ev.pos rfl (Ev.ret rfl)))
end Go.Proofs.Ytoelfgkigbfieaa.Pure
