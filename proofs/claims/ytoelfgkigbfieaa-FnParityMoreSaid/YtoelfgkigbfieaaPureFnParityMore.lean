/- Proved: the law FnParityMore (a column more is one more in the parity) answers true. Conditions: those of the statement's row alone. -/
import Derived.Test.YtoelfgkigbfieaaDrawB
import Derived.Test.YtoelfgkigbfieaaPrint24
namespace Go.Proofs.Ytoelfgkigbfieaa.Pure
open Go.RowKit Go.Proofs.Ytoelfgkigbfieaa.Print Go.Proofs.YtoelfgkigbfieaaW.PrintWords

theorem colAt_last (cols : List ByteArray) (c : ByteArray) : colAt (cols ++ [c]) cols.length = c := by simp [colAt, List.getD]
theorem cols3_more {cols : List ByteArray} (h : Cols3 cols) {c : ByteArray} (hc : c.size = 3) : Cols3 (cols ++ [c]) := by
  intro k hk
  simp only [List.length_append, List.length_singleton] at hk
  by_cases e : k = cols.length
  · rw [e, colAt_last]
    exact hc
  · rw [colAt_append _ _ _ (by omega)]
    exact h k (by omega)
theorem pf_more (cols : List ByteArray) (c : ByteArray) : pf (cols ++ [c]) (cols ++ [c]).length = X (pf cols cols.length) c := by
  rw [List.length_append, List.length_singleton]
  show X (pf (cols ++ [c]) cols.length) (colAt (cols ++ [c]) cols.length) = _
  rw [pf_append _ _ _ (Nat.le_refl _), colAt_last]

theorem parityMore_j1 (cols : List ByteArray) (m : List Int) (h1 : 1 ≤ cols.length) (h6 : cols.length ≤ 6) (c : Bool) (hc : c = false → ParOk cols ∧ cols.length ≠ 3) :
    Ev (fun k => laws_FnParityMore.j1 k m cols (parR cols) c) true := by
  refine Ev.next ?_
  simp only [laws_FnParityMore.j1]
  refine Ev.ite (fun _ => Ev.bind (specPar_ev cols (by omega)) (Ev.ret (by simp))) (fun hcf => ?_)
  obtain ⟨hok, hn3⟩ := hc (by simpa using hcf)
  have hlen : (0 : Int) < (cols.length : Int) := by omega
  have hm1 := Int.emod_nonneg (m.length : Int) (show (cols.length : Int) ≠ 0 by omega)
  have hm2 := Int.emod_lt_of_pos (m.length : Int) hlen
  obtain ⟨a, ha⟩ := Int.eq_ofNat_of_zero_le hm1
  rw [ha] at hm2 ⊢
  simp only [rdOf_nat]
  have hcs := hok.cols3 a (by omega)
  have hps := pf_size hok.cols3 cols.length (Nat.le_refl _)
  have hl2 := hok.hi
  have hok1 : ParOk (cols ++ [colAt cols a]) := ⟨by simp, by simp; omega, cols3_more hok.cols3 hcs⟩
  refine Ev.neg (by omega) (Ev.pos (by omega) (Ev.pos (by omega) (Ev.take rfl (Ev.pos (by simp; omega) (Ev.take rfl (Ev.pos (by simp; omega) (Ev.take rfl ?_)))))))
  simp only [List.nil_append]
  refine Ev.bind (implPar_ev _) ?_
  rw [parR_ok hok1, pf_more, parR_ok hok]
  refine Ev.take (implXor_eq _ _ (by omega) (by omega)) (Ev.pos rfl ?_)
  by_cases h3 : cols.length = 2
  · exact Ev.pos (by simp; omega) (Ev.ret rfl)
  · have hok2 : ParOk (cols ++ [colAt cols a] ++ [colAt cols a]) := ⟨by simp, by simp; omega, cols3_more hok1.cols3 hcs⟩
    refine Ev.neg (by simp; omega) (Ev.pos (by simp; omega) (Ev.bind (implPar_ev _) (Ev.ret ?_)))
    rw [parR_ok hok2, pf_more, pf_more, X_cancel hps hcs]
    simp
theorem FnParityMore : laws_FnParityMore.Pure := by
  intro l l' _ _ hw _ _ _
  apply Ev.rounds
  have main : ∀ c : Bool, Ev (fun k => laws_FnParityMore.j0 k l l' c) true := by
    intro c
    refine Ev.next ?_
    simp only [laws_FnParityMore.j0]
    refine Ev.ite (fun _ => Ev.ret rfl) (fun _ => ?_)
    obtain ⟨cols, hd, h1, h6⟩ := drawPar_ev l hw
    refine Ev.bind hd (Ev.bind (implPar_ev cols) (Ev.bind (specPar_ev cols (by omega)) (Ev.pos rfl (Ev.ite (fun _ => parityMore_j1 cols l' h1 h6 _ (fun h => by cases h)) (fun h => parityMore_j1 cols l' h1 h6 _ (fun h' => ?_))))))
    refine ⟨Classical.byContradiction fun hx => h ((parR_nil cols).2 hx), ?_⟩
    simp at h'
    omega
  unfold laws_FnParityMore.f
  exact Ev.ite (fun _ => main _) (fun _ => main _)
end Go.Proofs.Ytoelfgkigbfieaa.Pure
