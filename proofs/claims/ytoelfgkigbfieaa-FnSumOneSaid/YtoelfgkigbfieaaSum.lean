/- Proved: the program's SumOf and the reference's are the sum of the first nine bytes, each times 65536 and its place. Conditions: the text is not larger than a law lets in. -/
import Derived.Test.YtoelfgkigbfieaaDrawA
import Derived.Test.YtoelfgkigbfieaaPrint1
namespace Go.Proofs.Ytoelfgkigbfieaa.Pure
open Go.RowKit Go.Proofs.Ytoelfgkigbfieaa.Print Go.Proofs.YtoelfgkigbfieaaW.PrintWords

/-- A byte, times what it counts. -/
theorem term_bd (s : ByteArray) (i : Nat) (h : i ≤ 2097152) : 0 ≤ bt s (i : Int) * (65536 + ((i : Int) + 1)) ∧ bt s (i : Int) * (65536 + ((i : Int) + 1)) ≤ 255 * (65536 + ((i : Int) + 1)) := by
  have hb := bt_bd s (i : Int)
  exact ⟨Int.mul_nonneg hb.1 (by omega), Int.mul_le_mul_of_nonneg_right (by omega) (by omega)⟩
theorem wsum_bd (s : ByteArray) (k : Nat) (h : k ≤ 9) : 0 ≤ wsum s k ∧ wsum s k ≤ k * 16713975 := by
  induction k with
  | zero => simp [wsum]
  | succ k ih =>
    have := ih (by omega)
    have ht := term_bd s k (by omega)
    simp only [wsum]
    omega
theorem wsum_congr {s t : ByteArray} (k : Nat) (h : ∀ i : Nat, i < k → bt s (i : Int) = bt t (i : Int)) : wsum s k = wsum t k := by
  induction k with
  | zero => rfl
  | succ k ih =>
    simp only [wsum]
    rw [ih (fun i hi => h i (by omega)), h k (by omega)]
theorem wsum_mono (s : ByteArray) (a b : Nat) (hab : a ≤ b) (hb : b ≤ 9) : wsum s a ≤ wsum s b := by
  obtain ⟨d, rfl⟩ : ∃ d, b = a + d := ⟨b - a, by omega⟩
  clear hab
  induction d with
  | zero => simp
  | succ d ih =>
    have := ih (by omega)
    have ht := term_bd s (a + d) (by omega)
    have hs : wsum s (a + (d + 1)) = wsum s (a + d) + bt s ((a + d : Nat) : Int) * (65536 + (((a + d : Nat) : Int) + 1)) := rfl
    omega

/-- How many bytes count. -/
def nine (s : ByteArray) : Nat := min s.size 9

theorem specSum_l0 (s : ByteArray) (d : Nat) : ∀ i : Nat, i + d = nine s → Ev (fun k => spec_SumOf.l0 k s (wsum s i) (i : Int)) (wsum s (nine s)) := by
  induction d with
  | zero =>
    intro i hi
    refine Ev.next ?_
    simp only [spec_SumOf.l0]
    have hi' : i = nine s := by omega
    by_cases h : (i : Int) < (s.size : Int)
    · exact Ev.pos h (Ev.neg (by unfold nine at hi'; omega) (Ev.ret (by rw [hi'])))
    · exact Ev.neg h (Ev.ret (by rw [hi']))
  | succ d ih =>
    intro i hi
    have hn : nine s ≤ 9 ∧ nine s ≤ s.size := by unfold nine; omega
    refine Ev.next ?_
    simp only [spec_SumOf.l0]
    have hb := bt_bd s (i : Int)
    have ht := term_bd s i (by omega)
    have hw := wsum_bd s i (by omega)
    have e1 : wrap64 (bt s (i : Int)) = bt s (i : Int) := wrap_ok (by omega)
    have e2 : wrap64 (65536 + (i : Int)) = 65536 + (i : Int) := wrap_ok (by omega)
    have e3 : wrap64 (65536 + (i : Int) + 1) = 65536 + ((i : Int) + 1) := by rw [wrap_ok (by omega)]; omega
    have e4 : wrap64 (bt s (i : Int) * (65536 + ((i : Int) + 1))) = bt s (i : Int) * (65536 + ((i : Int) + 1)) := wrap_ok (by omega)
    have e5 : wrap64 (wsum s i + bt s (i : Int) * (65536 + ((i : Int) + 1))) = wsum s (i + 1) := by
      rw [wrap_ok (by omega)]
      simp only [wsum]
    have e6 : wrap64 ((i : Int) + 1) = ((i + 1 : Nat) : Int) := by rw [wrap_ok (by omega)]; omega
    simp only [e1, e2, e3, e4, e5, e6]
    clear e1 e2 e3 e4 e5 e6
    exact Ev.pos (by omega) (Ev.pos (by omega) (Ev.pos (by omega) (ih (i + 1) (by omega))))
theorem specSum_ev (s : ByteArray) : Ev (fun k => spec_SumOf.f k s) (wsum s (nine s)) := by
  unfold spec_SumOf.f
  exact specSum_l0 s (nine s) 0 (by omega)

theorem implSum_eq (s : ByteArray) : impl_SumOf.f s = some (wsum s (nine s)) := by
  have hm : mn (s.size : Int) 9 = ((nine s : Nat) : Int) := by unfold mn nine; omega
  have hn : nine s ≤ 9 ∧ nine s ≤ s.size := by unfold nine; omega
  have hz : (s.extract 0 (nine s)).size = nine s := by rw [size_extract _ _ _ hn.2]; omega
  unfold impl_SumOf.f impl_weigh.f
  rw [hm, if_pos (by omega), if_pos (by omega), Int.toNat_natCast, hz, if_pos (by omega)]
  simp only [Option.bind_some]
  exact congrArg some (wsum_congr (nine s) (fun i hi => by rw [bt_extract s 0 (nine s) i hn.2 (by omega), Nat.zero_add]))
end Go.Proofs.Ytoelfgkigbfieaa.Pure
