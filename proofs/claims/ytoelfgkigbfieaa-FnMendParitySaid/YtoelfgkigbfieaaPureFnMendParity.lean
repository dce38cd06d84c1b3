/- Proved: the law FnMendParity (what is found has the parity) answers true. Conditions: those of the statement's row alone. -/
import Derived.Test.YtoelfgkigbfieaaDrawB
import Derived.Test.YtoelfgkigbfieaaPrint28
import Derived.Test.YtoelfgkigbfieaaPrint29
namespace Go.Proofs.Ytoelfgkigbfieaa.Pure
open Go.RowKit Go.Proofs.Ytoelfgkigbfieaa.Print Go.Proofs.YtoelfgkigbfieaaW.PrintWords

theorem drawMend_ev (l : List Int) (h : ∀ x ∈ l, (Lit.int .u8 x).wf = true) : ∃ (cols : List ByteArray) (p : ByteArray) (a : Int), Ev (fun k => spec_DrawMendOf.f k l) (cols, p, a) := by
  obtain ⟨b, hb, hc⟩ := open_ev l h
  obtain ⟨cols, q, e1, h1, h6, hq1, hq2⟩ := l71Cols_ev hc 0 (by omega)
  have hl1 : wrap64 ((cols.length : Int) + 1) = (cols.length : Int) + 1 := wrap_ok (by omega)
  obtain ⟨r1, e2, e2a, e2b, _⟩ := pick_ev hc q ((cols.length : Int) + 1) (by omega) (by omega)
  have e2b := e2b (by omega)
  obtain ⟨r2, e3, e3a, e3b, _⟩ := pick_ev hc (q + 1) 12 (by omega) (by omega)
  obtain ⟨r3, e4, e4a, e4b, _⟩ := pick_ev hc (q + 1 + 1) 3 (by omega) (by omega)
  have j0 : ∀ (p : ByteArray) (x : Int) (q' : Int), 0 ≤ q' ∧ q' ≤ 100000000 → ∃ (cols' : List ByteArray) (p' : ByteArray) (a' : Int), Ev (fun k => spec_DrawMendOf.j0 k cols p x b q') (cols', p', a') := by
    intro p x q' hq
    have hw : wrap64 ((cols.length : Int) - 1) = (cols.length : Int) - 1 := wrap_ok (by omega)
    by_cases hi : 0 ≤ x ∧ x ≤ (cols.length : Int) - 1
    · obtain ⟨r, e5, e5a, e5b, _⟩ := pick_ev hc q' 2 (by omega) (by omega)
      by_cases hr : r = 0
      · obtain ⟨t, q2, e6, _⟩ := text_ev hc (q' + 1) 3 (by omega) (by omega)
        refine ⟨cols.set x.toNat t, p, x, Ev.next ?_⟩
        simp only [spec_DrawMendOf.j0, hw]
        exact Ev.take (l6In_eq _ _ _) (Ev.pos (by simpa using hi) (Ev.bind e5 (Ev.pos hr (Ev.bind e6 (Ev.pos hi.1 (Ev.pos (by omega) (Ev.ret rfl)))))))
      · refine ⟨cols, p, x, Ev.next ?_⟩
        simp only [spec_DrawMendOf.j0, hw]
        exact Ev.take (l6In_eq _ _ _) (Ev.pos (by simpa using hi) (Ev.bind e5 (Ev.neg hr (Ev.ret rfl))))
    · refine ⟨cols, p, x, Ev.next ?_⟩
      simp only [spec_DrawMendOf.j0, hw]
      exact Ev.take (l6In_eq _ _ _) (Ev.neg (by simpa using hi) (Ev.ret rfl))
  by_cases h3 : r3 = 0
  · obtain ⟨t, q2, e6, _, hq3, hq4⟩ := text_ev hc (q + 1 + 1 + 1) 3 (by omega) (by omega)
    obtain ⟨cols', p', a', e7⟩ := j0 t (wrap64 (r1 - (wrap64 (Int.tdiv r2 11)))) q2 (by omega)
    refine ⟨cols', p', a', ?_⟩
    unfold spec_DrawMendOf.f
    refine Ev.take hb (Ev.bind e1 (Ev.bind (specPar_ev cols (by omega)) ?_))
    simp only [hl1]
    exact Ev.bind e2 (Ev.bind e3 (Ev.bind e4 (Ev.pos h3 (Ev.bind e6 e7))))
  · obtain ⟨cols', p', a', e7⟩ := j0 (parR cols) (wrap64 (r1 - (wrap64 (Int.tdiv r2 11)))) (q + 1 + 1 + 1) (by omega)
    refine ⟨cols', p', a', ?_⟩
    unfold spec_DrawMendOf.f
    refine Ev.take hb (Ev.bind e1 (Ev.bind (specPar_ev cols (by omega)) ?_))
    simp only [hl1]
    exact Ev.bind e2 (Ev.bind e3 (Ev.bind e4 (Ev.neg h3 e7)))

theorem mend_par {cols : List ByteArray} {p : ByteArray} {a : Nat} (h : MendOk cols p (a : Int)) : parR (cols.set a (mf cols a p cols.length)) = p := by
  have ha : a < cols.length := by have := h.hi; omega
  have hz := mf_size h.oth h.par cols.length (Nat.le_refl _)
  generalize hzz : mf cols a p cols.length = z at hz
  have hok : ParOk (cols.set a z) := ⟨by rw [List.length_set]; omega, by rw [List.length_set]; exact h.len, fun k hk => by
    rw [List.length_set] at hk
    rw [colAt_set _ _ _ _ ha]
    by_cases e : k = a
    · rw [if_pos e]; exact hz
    · rw [if_neg e]; exact h.oth k hk (by omega)⟩
  have hk := (mf_key (cols := cols.set a z) (a := a) h.par cols.length (by rw [List.length_set]; omega)).2 ha
  rw [mf_set _ _ _ _ ha, hzz, colAt_set _ _ _ _ ha, if_pos rfl, X_self3 hz] at hk
  have hs := pf_size hok.cols3 cols.length (by rw [List.length_set]; omega)
  rw [parR_ok hok, List.length_set]
  rw [X_comm] at hk
  rw [X_eq hs h.par hk.symm, X_comm, X_zero3 h.par]
theorem FnMendParity : laws_FnMendParity.Pure := by
  intro l _ _ hw
  apply Ev.rounds
  unfold laws_FnMendParity.f
  refine Ev.ite (fun _ => Ev.ret rfl) (fun _ => ?_)
  obtain ⟨cols, p, a, hd⟩ := drawMend_ev l hw
  refine Ev.bind hd (Ev.bind (implMend_ev _ _ _) (Ev.bind (specMend_ev _ _ _) ?_))
  refine Ev.neg (by simp) (Ev.pos rfl ?_)
  by_cases hm : MendOk cols p a
  · obtain ⟨a, rfl⟩ := Int.eq_ofNat_of_zero_le hm.lo
    rw [mendR_ok hm]
    refine Ev.pos rfl (Ev.take rfl (Ev.pos (by have := hm.hi; have := hm.len; simp; omega) (Ev.take rfl (Ev.pos hm.lo (Ev.pos (by have := hm.hi; simp; omega) ?_)))))
    simp only [List.nil_append, Int.toNat_natCast]
    exact Ev.bind (implPar_ev _) (Ev.ret (by rw [mend_par hm]; simp))
  · rw [mendR_no hm]
    exact Ev.neg (by simp) (Ev.pos rfl (Ev.ret (by simp)))
end Go.Proofs.Ytoelfgkigbfieaa.Pure
