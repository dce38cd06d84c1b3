/- Proved: the law FnXorThree (of three it does not matter which are first) answers true. Conditions: those of the statement's row alone. -/
import Derived.Test.YtoelfgkigbfieaaXor
import Derived.Test.YtoelfgkigbfieaaPrint14
namespace Go.Proofs.Ytoelfgkigbfieaa.Pure
open Go.RowKit Go.Proofs.Ytoelfgkigbfieaa.Print Go.Proofs.YtoelfgkigbfieaaW.PrintWords

theorem FnXorThree : laws_FnXorThree.Pure := by
  intro l l' _ _ hw _ _ hw'
  apply Ev.rounds
  unfold laws_FnXorThree.f
  have main : ∀ c : Bool, Ev (fun k => laws_FnXorThree.j0 k l l' c) true := by
    intro c
    refine Ev.next ?_
    simp only [laws_FnXorThree.j0]
    refine Ev.ite (fun _ => Ev.ret rfl) (fun _ => ?_)
    obtain ⟨a, b, hd, ha, hb⟩ := drawXor_ev l hw
    obtain ⟨c, c', hd', hc, _⟩ := drawXor_ev l' hw'
    have s1 := X_size a b
    have s2 := X_size b c
    have s3 := X_size c a
    refine Ev.bind hd (Ev.bind hd' (Ev.take (implXor_eq a b (by omega) (by omega)) (Ev.bind (specXor_ev a b (by omega) (by omega)) (Ev.pos rfl ?_))))
    refine Ev.take (implXor_eq (X a b) c (by omega) (by omega)) (Ev.take (implXor_eq b c (by omega) (by omega)) (Ev.take (implXor_eq a (X b c) (by omega) (by omega)) (Ev.pos (by rw [X_assoc]) ?_)))
    refine Ev.take (implXor_eq c a (by omega) (by omega)) (Ev.take (implXor_eq (X c a) b (by omega) (by omega)) (Ev.take (implXor_eq c (X a b) (by omega) (by omega)) (Ev.ret ?_)))
    rw [X_assoc]
    simp
  exact Ev.ite (fun _ => main _) (fun _ => main _)
end Go.Proofs.Ytoelfgkigbfieaa.Pure
