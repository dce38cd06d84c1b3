/- Proved: the law FnExactModelOk answers true. Conditions: those of the statement's row alone. -/
import Derived.Test.YtmfehjkcefpeoaaMBase
import Derived.Test.YtmfehjkcefpeoaaPrint9
namespace Go.Proofs.Ytmfehjkcefpeoaa.Pure
open Go.RowKit Go.Maps Go.Proofs.Ytmfehjkcefpeoaa.Print Go.Proofs.YtmfehjkcefpeoaaW.PrintWords Go.Proofs.YtmfehjkcefpeoaaW.PrintLast
set_option linter.unusedSimpArgs false
set_option linter.unusedVariables false

theorem FnExactModelOk (l : List S58) (w : l.length ≤ maxLen ∧ ∀ x ∈ l, Wf58 x) : ∃ k, laws_FnExactModelOk.f k l = some true := by
  apply Ev.rounds
  unfold laws_FnExactModelOk.f
  obtain ⟨t, ht, hb⟩ := szModel_ev l w.1 w.2
  refine Ev.bind ht ?_
  by_cases h : t < 0
  · exact Ev.pos h (Ev.ret rfl)
  · have hF := hb h
    have hM := hF.conv w.2
    exact Ev.neg h (Ev.bind (toModel_ev l hF) (Ev.bind (specOk_ev _ hM) (Ev.bind (toModel_ev l hF) (Ev.take (implOk_eq _ hM) (Ev.neg (by simp) (Ev.bind (toModel_ev l hF) (Ev.bind (eqModel_ev _ hM) (Ev.pos rfl (Ev.ret rfl)))))))))
end Go.Proofs.Ytmfehjkcefpeoaa.Pure
