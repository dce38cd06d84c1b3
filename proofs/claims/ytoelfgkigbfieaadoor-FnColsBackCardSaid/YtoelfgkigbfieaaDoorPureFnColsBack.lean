/- Proved: the law FnColsBack answers true: a text is read back from its columns. Conditions: those of the statement's row alone. -/
import Derived.Test.YtoelfgkigbfieaaDoorTCols
import Derived.Test.YtoelfgkigbfieaaDoorTDraw
import Derived.Test.YtoelfgkigbfieaaDoorPrint14
namespace Go.Proofs.YtoelfgkigbfieaaDoor.Pure
open Go.RowKit Go.Proofs.YtoelfgkigbfieaaDoor.Print Go.Proofs.YtoelfgkigbfieaaDoorW.PrintWords Go.Proofs.YtoelfgkigbfieaaDoorW.PrintLast
set_option linter.unusedSimpArgs false

theorem drawCols_ev (l : List Int) (h : ∀ x ∈ l, (Lit.int .u8 x).wf = true) : ∃ s : ByteArray, Ev (fun k => spec_DrawColsOf.f k l) s := by
  obtain ⟨b, hb, hc⟩ := open_ev l h
  obtain ⟨r, e1, e1a, e1b, _⟩ := pick_ev hc 0 20 (by omega) (by omega)
  have e1b := e1b (by omega)
  have hd : 0 ≤ Int.tdiv r 18 ∧ Int.tdiv r 18 ≤ 1 := by
    rw [Int.tdiv_eq_ediv_of_nonneg e1a]
    omega
  have w1 : wrap64 (Int.tdiv r 18) = Int.tdiv r 18 := wrap_ok (by omega)
  have w2 : wrap64 (9 + Int.tdiv r 18) = 9 + Int.tdiv r 18 := wrap_ok (by omega)
  obtain ⟨t, q, e2, _, _, _⟩ := text_ev hc (0 + 1) (9 + Int.tdiv r 18) (by omega) (by omega)
  refine ⟨t, ?_⟩
  unfold spec_DrawColsOf.f
  refine Ev.take hb (Ev.bind e1 ?_)
  dsimp only
  rw [w1, w2]
  exact Ev.bind e2 (Ev.ret rfl)
theorem colsBack_l0 (s : ByteArray) (h : 1 ≤ s.size ∧ s.size ≤ 9) (d : Nat) : ∀ i : Nat, i + d = (R s).length → Ev (fun k => laws_FnColsBack.l0 k s (R s) (i : Int)) true := by
  have hl := R_length h
  have hm : many s = (s.size + 2) / 3 := rfl
  induction d with
  | zero =>
    intro i hi
    have e1 : wrap64 ((s.size : Int) + 3) = (s.size : Int) + 3 := wrap_ok (by omega)
    have e2 : wrap64 ((s.size : Int) + 3 - 1) = ((s.size + 2 : Nat) : Int) := by rw [wrap_ok (by omega)]; omega
    have e3 : wrap64 (((s.size + 2) / 3 : Nat) : Int) = (((s.size + 2) / 3 : Nat) : Int) := wrap_ok (by omega)
    have ht := implText_ev (R s) (by omega) (s.size : Int)
    rw [textR_R h] at ht
    refine Ev.next ?_
    simp only [laws_FnColsBack.l0, e1, e2, show Int.tdiv ((s.size + 2 : Nat) : Int) 3 = (((s.size + 2) / 3 : Nat) : Int) from rfl, e3]
    clear e1 e2 e3
    exact Ev.neg (by omega) (Ev.bind ht (Ev.pos rfl (Ev.pos rfl (Ev.ret (by rw [beq_iff_eq]; omega)))))
  | succ d ih =>
    intro i hi
    have e : wrap64 ((i : Int) + 1) = ((i + 1 : Nat) : Int) := by rw [wrap_ok (by omega)]; omega
    have hih := ih (i + 1) (by omega)
    have hc := (R_par h).cols3 i (by omega)
    refine Ev.next ?_
    simp only [laws_FnColsBack.l0, e, rdOf_nat]
    clear e
    exact Ev.pos (by omega) (Ev.pos (by omega) (Ev.pos (by omega) hih))
theorem FnColsBack : laws_FnColsBack.Pure := by
  intro l _ _ hw
  apply Ev.rounds
  unfold laws_FnColsBack.f
  refine Ev.ite (fun _ => Ev.ret rfl) (fun _ => ?_)
  obtain ⟨s, hd⟩ := drawCols_ev l hw
  have hR := R_len s
  refine Ev.bind hd (Ev.bind (implCols_R s) (Ev.bind (specCols_R s) (Ev.bind (lpaTexts_ev (R s) (by omega)) (Ev.pos rfl (Ev.next ?_)))))
  simp only [laws_FnColsBack.j0]
  by_cases h : 1 ≤ s.size ∧ s.size ≤ 9
  · have hl := R_length h
    exact Ev.neg (by rw [beq_iff_eq]; omega) (colsBack_l0 s h _ 0 (Nat.zero_add _))
  · have h0 : R s = [] := by unfold R; rw [if_neg h]
    exact Ev.pos (by rw [h0]; rfl) (Ev.bind (specCols_R s) (Ev.bind (lpaTexts_ev (R s) (by omega)) (Ev.ret rfl)))
end Go.Proofs.YtoelfgkigbfieaaDoor.Pure
