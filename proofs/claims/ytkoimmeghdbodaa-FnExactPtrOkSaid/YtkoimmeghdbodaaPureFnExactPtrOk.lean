/- Proved: the law FnExactPtrOk answers true. Conditions: those of the statement's row alone. -/
import Derived.Test.YtkoimmeghdbodaaPlaces
import Derived.Test.YtkoimmeghdbodaaPrint10
namespace Go.Proofs.Ytkoimmeghdbodaa.Pure
open Go.RowKit Go.Proofs.Ytkoimmeghdbodaa.Print Go.Proofs.YtkoimmeghdbodaaW.PrintWords

theorem toPtr_ev (s m : Int) (l : List S94) (hl : l.length ≤ 1048576) : Ev (fun k => laws_toPtr.f k s m l) (s, m, pls l) := by
  unfold laws_toPtr.f
  exact Ev.bind (toPlaceS_ev l hl) (Ev.ret rfl)
theorem FnExactPtrOk (n s m : Int) (l : List S94) (_ : (Lit.int .i64 n).wf = true) (hw : Take.W24 ⟨s, m, l⟩) : ∃ k, laws_FnExactPtrOk.f k n s m l = some true := by
  apply Ev.rounds
  obtain ⟨t, ht, hl⟩ := szPlaceS_eq l hw.2.2.1
  unfold laws_FnExactPtrOk.f
  by_cases h : t < 0
  · exact Ev.take (a := -1) (by unfold laws_szPtr.f; rw [ht]; simp [h]) (Ev.pos (by omega) (Ev.ret rfl))
  · have hl := hl h
    have hp := pls_length l
    refine Ev.take (a := t) (by unfold laws_szPtr.f; rw [ht]; simp [h]) (Ev.neg h ?_)
    refine Ev.bind (toPtr_ev s m l hl) (Ev.bind (specPtr_ev n s m (pls l) (by omega)) (Ev.bind (toPtr_ev s m l hl) (Ev.bind (implPtr_ev n s m (pls l) (by omega)) (Ev.neg (by simp) ?_))))
    exact Ev.bind (toPtr_ev s m l hl) (Ev.bind (eqPtr_ev s m (pls l) (by omega)) (Ev.pos rfl (Ev.ret rfl)))
end Go.Proofs.Ytkoimmeghdbodaa.Pure
