/- Proved: the law FnColsStrict answers true: columns are of one text. Conditions: those of the statement's row alone. -/
import Derived.Test.YtoelfgkigbfieaaDoorTCols
import Derived.Test.YtoelfgkigbfieaaDoorTDraw
import Derived.Test.YtoelfgkigbfieaaDoorPrint17
namespace Go.Proofs.YtoelfgkigbfieaaDoor.Pure
open Go.RowKit Go.Proofs.YtoelfgkigbfieaaDoor.Print Go.Proofs.YtoelfgkigbfieaaDoorW.PrintWords Go.Proofs.YtoelfgkigbfieaaDoorW.PrintLast
set_option linter.unusedSimpArgs false

theorem l71Cols_j0 {b : List Int} (hb : Code b) (cols : List ByteArray) (h1 : 1 ≤ cols.length) (h3 : cols.length ≤ 3) (p : Int) (hp : 0 ≤ p ∧ p ≤ 100000000) :
    ∃ (r : List ByteArray) (q : Int), Ev (fun k => spec_l71Cols.j0 k cols b p) (r, q) ∧ 1 ≤ r.length ∧ r.length ≤ 6 ∧ p ≤ q ∧ q ≤ p + 20 := by
  obtain ⟨r1, e1, e1a, e1b, _⟩ := pick_ev hb p 16 (by omega) (by omega)
  by_cases c0 : r1 = 0
  · obtain ⟨r2, e2, e2a, e2b, _⟩ := pick_ev hb (p + 1) (cols.length : Int) (by omega) (by omega)
    have e2b := e2b (by omega)
    obtain ⟨t, q, e3, _, hq1, hq2⟩ := text_ev hb (p + 1 + 1) 4 (by omega) (by omega)
    refine ⟨cols.set r2.toNat t, q, Ev.next ?_, by simpa using h1, by simp; omega, by omega, by omega⟩
    simp only [spec_l71Cols.j0]
    exact Ev.bind e1 (Ev.pos c0 (Ev.bind e2 (Ev.bind e3 (Ev.pos e2a (Ev.pos e2b (Ev.ret rfl))))))
  · by_cases c1 : r1 = 1
    · refine ⟨cols ++ [(⟨#[97, 98, 99]⟩ : ByteArray), (⟨#[97, 98, 99]⟩ : ByteArray), (⟨#[97, 98, 99]⟩ : ByteArray)], p + 1, Ev.next ?_, by simp, by simp; omega, by omega, by omega⟩
      simp only [spec_l71Cols.j0]
      exact Ev.bind e1 (Ev.neg c0 (Ev.pos c1 (Ev.take rfl (Ev.pos (by simp; omega) (Ev.ret rfl)))))
    · refine ⟨cols, p + 1, Ev.next ?_, h1, by omega, by omega, by omega⟩
      simp only [spec_l71Cols.j0]
      exact Ev.bind e1 (Ev.neg c0 (Ev.neg c1 (Ev.ret rfl)))
theorem l71Cols_ev {b : List Int} (hb : Code b) (p : Int) (hp : 0 ≤ p ∧ p ≤ 1000000) :
    ∃ (r : List ByteArray) (q : Int), Ev (fun k => spec_l71Cols.f k b p) (r, q) ∧ 1 ≤ r.length ∧ r.length ≤ 6 ∧ p ≤ q ∧ q ≤ p + 50 := by
  obtain ⟨t, q, e1, ht, hq1, hq2⟩ := text_ev hb p 9 (by omega) (by omega)
  have hz : (t ++ (⟨#[97]⟩ : ByteArray)).size = t.size + 1 := by rw [ByteArray.size_append]; rfl
  by_cases h9 : t.size ≤ 8
  · have hl := R_length (s := t ++ (⟨#[97]⟩ : ByteArray)) (by omega)
    obtain ⟨r, q', e2, h1, h2, h3, h4⟩ := l71Cols_j0 hb _ hl.1 hl.2.1 q (by omega)
    refine ⟨r, q', ?_, h1, h2, by omega, by omega⟩
    unfold spec_l71Cols.f
    exact Ev.bind e1 (Ev.pos (by dsimp only; omega) (Ev.bind (specCols_R _) (Ev.neg (by dsimp only; omega) e2)))
  · have hl0 : R (t ++ (⟨#[97]⟩ : ByteArray)) = [] := by unfold R; rw [if_neg (by omega)]
    have hl := R_length (s := (⟨#[97, 98, 99, 100, 101, 102]⟩ : ByteArray)) (by decide)
    obtain ⟨r, q', e2, h1, h2, h3, h4⟩ := l71Cols_j0 hb _ hl.1 hl.2.1 q (by omega)
    refine ⟨r, q', ?_, h1, h2, by omega, by omega⟩
    unfold spec_l71Cols.f
    exact Ev.bind e1 (Ev.pos (by dsimp only; omega) (Ev.bind (specCols_R _) (Ev.pos (by rw [hl0]; rfl) (Ev.bind (specCols_R _) e2))))

theorem drawText_ev (l : List Int) (h : ∀ x ∈ l, (Lit.int .u8 x).wf = true) : ∃ (cols : List ByteArray) (n : Int), Ev (fun k => spec_DrawTextOf.f k l) (cols, n) ∧ cols.length ≤ 6 := by
  obtain ⟨b, hb, hc⟩ := open_ev l h
  obtain ⟨cols, q, e1, h1, h6, hq1, hq2⟩ := l71Cols_ev hc 0 (by omega)
  obtain ⟨r3, e2, e2a, e2b, _⟩ := pick_ev hc q 3 (by omega) (by omega)
  have e2b := e2b (by omega)
  obtain ⟨r2, e3, e3a, e3b, _⟩ := pick_ev hc (q + 1) 2 (by omega) (by omega)
  have w1 : wrap64 ((cols.length : Int) * 3) = (cols.length : Int) * 3 := wrap_ok (by omega)
  have w2 : wrap64 ((cols.length : Int) * 3 - r3) = (cols.length : Int) * 3 - r3 := wrap_ok (by omega)
  have pre : ∀ (x : List ByteArray × Int), Ev (fun k => if r2 = 0 then (spec_DrawTextOf.j0 k cols ((cols.length : Int) * 3 - r3) (decide (((cols.length : Int) * 3 - r3) > 0)) b (q + 1 + 1)) else (spec_DrawTextOf.j0 k cols ((cols.length : Int) * 3 - r3) false b (q + 1 + 1))) x → Ev (fun k => spec_DrawTextOf.f k l) x := by
    intro x hx
    unfold spec_DrawTextOf.f
    refine Ev.take hb (Ev.bind e1 (Ev.bind e2 (Ev.bind e3 ?_)))
    dsimp only
    rw [w1, w2]
    exact hx
  by_cases c : r2 = 0
  · obtain ⟨t, q', e4, ht, _, _⟩ := text_ev hc (q + 1 + 1) 8 (by omega) (by omega)
    refine ⟨R (t ++ (⟨#[113]⟩ : ByteArray)), ((t ++ (⟨#[113]⟩ : ByteArray)).size : Int), pre _ (Ev.pos c (Ev.next ?_)), by have := R_len (t ++ (⟨#[113]⟩ : ByteArray)); omega⟩
    simp only [spec_DrawTextOf.j0]
    exact Ev.pos (decide_eq_true (by omega)) (Ev.bind e4 (Ev.pos (by dsimp only; omega) (Ev.bind (specCols_R _) (Ev.ret rfl))))
  · obtain ⟨r, e4, e4a, e4b, _⟩ := pick_ev hc (q + 1 + 1) 12 (by omega) (by omega)
    refine ⟨cols, wrap64 ((cols.length : Int) * 3 - r3 - wrap64 (Int.tdiv r 11)), pre _ (Ev.neg c (Ev.next ?_)), h6⟩
    simp only [spec_DrawTextOf.j0]
    exact Ev.neg (by decide) (Ev.bind e4 (Ev.ret rfl))
theorem FnColsStrict : laws_FnColsStrict.Pure := by
  intro l _ _ hw
  apply Ev.rounds
  unfold laws_FnColsStrict.f
  refine Ev.ite (fun _ => Ev.ret rfl) (fun _ => ?_)
  obtain ⟨cols, n, hd, h6⟩ := drawText_ev l hw
  have h1 := implText_ev cols (by omega) n
  have h2 := specText_ev cols (by omega) n
  by_cases h : TextOk cols n
  · obtain ⟨m, rfl⟩ := Int.eq_ofNat_of_zero_le (show 0 ≤ n by have := h.lo; have := h.par.lo; omega)
    obtain ⟨hR, hs⟩ := R_text h
    rw [textR_ok h, Int.toNat_natCast] at h1 h2
    have hi := implCols_R ((J cols).extract 0 m)
    rw [hR] at hi
    refine Ev.bind hd (Ev.bind h1 (Ev.bind h2 (Ev.neg (by simp) (Ev.pos rfl (Ev.next ?_)))))
    simp only [laws_FnColsStrict.j0]
    exact Ev.neg (by decide) (Ev.bind hi (Ev.bind (lpaTexts_ev cols (by omega)) (Ev.pos rfl (Ev.ret (by rw [hs]; simp)))))
  · rw [textR_no h] at h1 h2
    refine Ev.bind hd (Ev.bind h1 (Ev.bind h2 (Ev.neg (by simp) (Ev.pos rfl (Ev.next ?_)))))
    simp only [laws_FnColsStrict.j0]
    exact Ev.pos (by decide) (Ev.pos (by decide) (Ev.ret (by simp)))
end Go.Proofs.YtoelfgkigbfieaaDoor.Pure
