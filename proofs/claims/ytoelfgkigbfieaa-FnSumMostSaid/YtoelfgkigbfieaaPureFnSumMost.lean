/- Proved: the law FnSumMost (a sum is not large) answers true. Conditions: those of the statement's row alone. -/
import Derived.Test.YtoelfgkigbfieaaSum
import Derived.Test.YtoelfgkigbfieaaPrint4
namespace Go.Proofs.Ytoelfgkigbfieaa.Pure
open Go.RowKit Go.Proofs.Ytoelfgkigbfieaa.Print Go.Proofs.YtoelfgkigbfieaaW.PrintWords

theorem drawSum_ev (l : List Int) (h : ∀ x ∈ l, (Lit.int .u8 x).wf = true) : ∃ t : ByteArray, Ev (fun k => spec_DrawSumOf.f k l) t ∧ t.size ≤ 11 := by
  obtain ⟨b, hb, hc⟩ := open_ev l h
  obtain ⟨t, q, ht, hs, _, _⟩ := text_ev hc 0 11 (by omega) (by omega)
  refine ⟨t, ?_, by omega⟩
  unfold spec_DrawSumOf.f
  exact Ev.take hb (Ev.bind ht (Ev.ret rfl))

theorem FnSumMost : laws_FnSumMost.Pure := by
  intro l _ _ hw
  apply Ev.rounds
  unfold laws_FnSumMost.f
  refine Ev.ite (fun _ => Ev.ret rfl) (fun _ => ?_)
  obtain ⟨t, ht, hs⟩ := drawSum_ev l hw
  have hn : nine t ≤ 9 ∧ nine t ≤ t.size := by unfold nine; omega
  have hb := wsum_bd t (nine t) hn.1
  refine Ev.bind ht (Ev.take (implSum_eq t) (Ev.bind (specSum_ev t) (Ev.pos rfl (Ev.pos hb.1 (Ev.pos (by omega) (Ev.pos (by omega) (Ev.take (implSum_eq _) ?_)))))))
  have h1 : wsum (t ++ (⟨#[120]⟩ : ByteArray)) (nine t) = wsum t (nine t) := wsum_congr _ fun i hi => bt_append_left _ _ _ (by omega)
  have hz : (t ++ (⟨#[120]⟩ : ByteArray)).size = t.size + 1 := by rw [ByteArray.size_append]; rfl
  have h2 := wsum_mono (t ++ (⟨#[120]⟩ : ByteArray)) (nine t) (nine (t ++ (⟨#[120]⟩ : ByteArray))) (by unfold nine; omega) (by unfold nine; omega)
  refine Ev.pos (by omega) (Ev.take (implSum_eq _) (Ev.ret ?_))
  rfl
end Go.Proofs.Ytoelfgkigbfieaa.Pure
