/- Proved: the law FnMendBack (a column that is lost is found) answers true. Conditions: those of the statement's row alone. -/
import Derived.Test.YtoelfgkigbfieaaDrawB
import Derived.Test.YtoelfgkigbfieaaPrint26
namespace Go.Proofs.Ytoelfgkigbfieaa.Pure
open Go.RowKit Go.Proofs.Ytoelfgkigbfieaa.Print Go.Proofs.YtoelfgkigbfieaaW.PrintWords

theorem mend_lost {cols : List ByteArray} (hok : ParOk cols) (a : Nat) (ha : a < cols.length) (z : ByteArray) : mendR (cols.set a z) (parR cols) (a : Int) = (colAt cols a, true) := by
  have hps := pf_size hok.cols3 cols.length (Nat.le_refl _)
  have hm : MendOk (cols.set a z) (parR cols) (a : Int) := ⟨by have := hok.hi; simpa using this, by omega, by simp; omega, by rw [parR_ok hok]; exact hps, fun k hk hka => by
    rw [colAt_set _ _ _ _ ha, if_neg (by omega)]
    exact hok.cols3 k (by simpa using hk)⟩
  rw [mendR_ok hm, List.length_set, mf_set _ _ _ _ ha]
  have hk := (mf_key (cols := cols) (a := a) (p := parR cols) (by rw [parR_ok hok]; exact hps) cols.length (Nat.le_refl _)).2 ha
  have hca := hok.cols3 a ha
  have hms := mf_size (hok.cols3.others (a : Int)) (p := parR cols) (by rw [parR_ok hok]; exact hps) cols.length (Nat.le_refl _)
  rw [parR_ok hok] at hk hms ⊢
  rw [X_self3 hps] at hk
  rw [X_eq hms hca hk, X_comm, X_zero3 hca]
theorem FnMendBack : laws_FnMendBack.Pure := by
  intro l l' _ _ hw _ _ _
  apply Ev.rounds
  have main : ∀ c : Bool, Ev (fun k => laws_FnMendBack.j0 k l l' c) true := by
    intro c
    refine Ev.next ?_
    simp only [laws_FnMendBack.j0]
    refine Ev.ite (fun _ => Ev.ret rfl) (fun _ => ?_)
    obtain ⟨cols, hd, h1, h6⟩ := drawPar_ev l hw
    refine Ev.bind hd (Ev.bind (implPar_ev cols) (Ev.bind (specPar_ev cols (by omega)) (Ev.pos rfl (Ev.next ?_))))
    simp only [laws_FnMendBack.j1]
    refine Ev.ite (fun _ => Ev.bind (specPar_ev cols (by omega)) (Ev.ret (by simp))) (fun h => ?_)
    have hok : ParOk cols := Classical.byContradiction fun hx => h (by simpa using (parR_nil cols).2 hx)
    have hm1 := Int.emod_nonneg (l'.length : Int) (show (cols.length : Int) ≠ 0 by omega)
    have hm2 := Int.emod_lt_of_pos (l'.length : Int) (show (0 : Int) < (cols.length : Int) by omega)
    obtain ⟨a, ha⟩ := Int.eq_ofNat_of_zero_le hm1
    rw [ha] at hm2 ⊢
    simp only [rdOf_nat, Int.toNat_natCast]
    refine Ev.neg (by omega) (Ev.take rfl (Ev.pos (by simp; omega) (Ev.take rfl (Ev.pos (by omega) (Ev.pos (by simp; omega) (Ev.take rfl ?_))))))
    simp only [List.nil_append, List.set_set]
    refine Ev.bind (implMend_ev _ _ _) (Ev.bind (implMend_ev _ _ _) ?_)
    rw [mend_lost hok a (by omega), mend_lost hok a (by omega)]
    exact Ev.pos rfl (Ev.pos rfl (Ev.pos (by omega) (Ev.pos rfl (Ev.ret (by simp)))))
  unfold laws_FnMendBack.f
  exact Ev.ite (fun _ => main _) (fun _ => main _)
end Go.Proofs.Ytoelfgkigbfieaa.Pure
