/- Proved: the law FnXorBack (one and the other, and the other, is the one) answers true. Conditions: those of the statement's row alone. -/
import Derived.Test.YtoelfgkigbfieaaXor
import Derived.Test.YtoelfgkigbfieaaPrint13
namespace Go.Proofs.Ytoelfgkigbfieaa.Pure
open Go.RowKit Go.Proofs.Ytoelfgkigbfieaa.Print Go.Proofs.YtoelfgkigbfieaaW.PrintWords

theorem xorBack_l1 (a b x y : ByteArray) (ha : a.size ≤ 5) (hb : b.size ≤ 5) (hx : x = X a b) (hy : y = X x b) (d : Nat) : ∀ i : Nat, i + d = (X a a).size → Ev (fun k => laws_FnXorBack.l1 k a b x y (X a a) (i : Int)) true := by
  have s0 := X_size a a
  have s1 := X_size a b
  have s2 := X_size x b
  induction d with
  | zero =>
    intro i hi
    refine Ev.next ?_
    simp only [laws_FnXorBack.l1]
    refine Ev.neg (by omega) (Ev.take (implXor_eq b a (by omega) (by omega)) (Ev.pos (by rw [hx, X_comm]) (Ev.pos ?_ (Ev.pos ?_ (Ev.take (implXor_eq a _ (by omega) (Nat.zero_le _)) (Ev.ret ?_))))))
    · unfold mx
      rw [hx]
      omega
    · rw [hy]
      rw [hx] at s2 ⊢
      omega
    · rw [X_empty]
      simp
  | succ d ih =>
    intro i hi
    have e : wrap64 ((i : Int) + 1) = ((i + 1 : Nat) : Int) := by rw [wrap_ok (by omega)]; omega
    have hih := ih (i + 1) (by omega)
    refine Ev.next ?_
    simp only [laws_FnXorBack.l1, e]
    clear e
    exact Ev.pos (by omega) (Ev.pos (by omega) (Ev.pos (by rw [bt_X, xb_self (bt_byte _ _)]) hih))
theorem xorBack_l0 (a b x y : ByteArray) (ha : a.size ≤ 5) (hb : b.size ≤ 5) (hx : x = X a b) (hy : y = X x b) (d : Nat) : ∀ i : Nat, i + d = y.size → Ev (fun k => laws_FnXorBack.l0 k a b x y (X a a) (i : Int)) true := by
  have hby : ∀ i : Nat, bt y (i : Int) = bt a (i : Int) := fun i => by rw [hy, hx, bt_X, bt_X, xb_back (bt_byte _ _) (bt_byte _ _)]
  have hs : y.size ≤ 5 := by
    have s1 := X_size a b
    have s2 := X_size (X a b) b
    subst hx hy
    omega
  induction d with
  | zero =>
    intro i hi
    refine Ev.next ?_
    simp only [laws_FnXorBack.l0]
    exact Ev.neg (by omega) (xorBack_l1 a b x y ha hb hx hy _ 0 (Nat.zero_add _))
  | succ d ih =>
    intro i hi
    have e : wrap64 ((i : Int) + 1) = ((i + 1 : Nat) : Int) := by rw [wrap_ok (by omega)]; omega
    have hih := ih (i + 1) (by omega)
    refine Ev.next ?_
    simp only [laws_FnXorBack.l0, e]
    clear e
    refine Ev.pos (by omega) (Ev.ite (fun h1 => ?_) (fun h1 => ?_))
    · exact Ev.pos (by omega) (Ev.pos (hby i) (Ev.neg (by omega) hih))
    · exact Ev.pos (by omega) (Ev.pos (by omega) (Ev.pos (by rw [hby, bt_over a i (by omega)]) hih))
theorem FnXorBack : laws_FnXorBack.Pure := by
  intro l _ _ hw
  apply Ev.rounds
  unfold laws_FnXorBack.f
  refine Ev.ite (fun _ => Ev.ret rfl) (fun _ => ?_)
  obtain ⟨a, b, hd, ha, hb⟩ := drawXor_ev l hw
  have s1 := X_size a b
  refine Ev.bind hd (Ev.take (implXor_eq a b (by omega) (by omega)) (Ev.bind (specXor_ev a b (by omega) (by omega)) (Ev.pos rfl ?_)))
  exact Ev.take (implXor_eq (X a b) b (by omega) (by omega)) (Ev.take (implXor_eq a a (by omega) (by omega)) (xorBack_l0 a b (X a b) (X (X a b) b) ha hb rfl rfl _ 0 (Nat.zero_add _)))
end Go.Proofs.Ytoelfgkigbfieaa.Pure
