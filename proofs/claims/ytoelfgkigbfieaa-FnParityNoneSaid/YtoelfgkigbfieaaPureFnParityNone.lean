/- Proved: the law FnParityNone (all columns with their parity are nothing) answers true. Conditions: those of the statement's row alone. -/
import Derived.Test.YtoelfgkigbfieaaDrawB
import Derived.Test.YtoelfgkigbfieaaPrint25
namespace Go.Proofs.Ytoelfgkigbfieaa.Pure
open Go.RowKit Go.Proofs.Ytoelfgkigbfieaa.Print Go.Proofs.YtoelfgkigbfieaaW.PrintWords

theorem parityNone_l0 (cols : List ByteArray) (hok : ParOk cols) (d : Nat) : ∀ i : Nat, i + d = cols.length → Ev (fun k => laws_FnParityNone.l0 k cols (parR cols) (X (parR cols) (pf cols i)) (i : Int)) true := by
  have hp := parR_ok hok
  have hps := pf_size hok.cols3 cols.length (Nat.le_refl _)
  have hl1 := hok.lo
  have hl2 := hok.hi
  induction d with
  | zero =>
    intro i hi
    have hi' : i = cols.length := by omega
    have h0 := hok.cols3 0 (by omega)
    have hok1 : ParOk (cols.take 1) := ⟨by simp; omega, by simp; omega, fun k hk => by
      have hk0 : k = 0 := by simp at hk; omega
      subst hk0
      have : colAt (cols.take 1) 0 = colAt cols 0 := by simp [colAt, List.getD]
      rw [this]; exact h0⟩
    have hpar1 : parR (cols.take 1) = colAt cols 0 := by
      have hl : (cols.take 1).length = 1 := by simp; omega
      rw [parR_ok hok1, hl]
      show X zero3 (colAt (cols.take 1) 0) = _
      have : colAt (cols.take 1) 0 = colAt cols 0 := by simp [colAt, List.getD]
      rw [this, X_comm, X_zero3 h0]
    refine Ev.next ?_
    simp only [laws_FnParityNone.l0]
    rw [hi', hp, X_self3 hps]
    refine Ev.neg (by omega) (Ev.pos ?_ (Ev.pos (by omega) (Ev.bind (implPar_ev _) (Ev.pos (by omega) (Ev.pos ?_ (Ev.ret ?_))))))
    · rw [ByteArray.toList_eq]; rfl
    · rw [hpar1]
      exact congrArg ByteArray.toList (rdOf_nat cols 0).symm
    · rw [hps]; rfl
  | succ d ih =>
    intro i hi
    have e : wrap64 ((i : Int) + 1) = ((i + 1 : Nat) : Int) := by rw [wrap_ok (by omega)]; omega
    have hih := ih (i + 1) (by omega)
    have hc := hok.cols3 i (by omega)
    have hq := pf_size hok.cols3 i (by omega)
    have hxs : (X (parR cols) (pf cols i)).size = 3 := X3 (by rw [hp]; exact hps) hq
    simp only [pf] at hih
    rw [← X_assoc] at hih
    refine Ev.next ?_
    simp only [laws_FnParityNone.l0, e, rdOf_nat]
    clear e
    exact Ev.pos (by omega) (Ev.pos (by omega) (Ev.take (implXor_eq _ _ (by omega) (by omega)) hih))
theorem FnParityNone : laws_FnParityNone.Pure := by
  intro l _ _ hw
  apply Ev.rounds
  unfold laws_FnParityNone.f
  refine Ev.ite (fun _ => Ev.ret rfl) (fun _ => ?_)
  obtain ⟨cols, hd, h1, h6⟩ := drawPar_ev l hw
  refine Ev.bind hd (Ev.bind (implPar_ev cols) (Ev.bind (specPar_ev cols (by omega)) (Ev.pos rfl (Ev.next ?_))))
  simp only [laws_FnParityNone.j0]
  refine Ev.ite (fun _ => Ev.bind (specPar_ev cols (by omega)) (Ev.ret (by simp))) (fun h => ?_)
  have hok : ParOk cols := Classical.byContradiction fun hx => h (by simpa using (parR_nil cols).2 hx)
  have hl := parityNone_l0 cols hok _ 0 (Nat.zero_add _)
  have hp := parR_ok hok
  have hx : X (parR cols) (pf cols 0) = parR cols := by
    rw [hp]
    exact X_zero3 (pf_size hok.cols3 cols.length (Nat.le_refl _))
  rw [hx] at hl
  exact hl
end Go.Proofs.Ytoelfgkigbfieaa.Pure
