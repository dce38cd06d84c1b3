/- Proved: the law FnSumOne (a byte that is changed is found, and two) answers true. Conditions: those of the statement's row alone. -/
import Derived.Test.YtoelfgkigbfieaaSum
import Derived.Test.YtoelfgkigbfieaaChg
import Derived.Test.YtoelfgkigbfieaaPrint4
import Derived.Test.YtoelfgkigbfieaaPrint5
namespace Go.Proofs.Ytoelfgkigbfieaa.Pure
open Go.RowKit Go.Proofs.Ytoelfgkigbfieaa.Print Go.Proofs.YtoelfgkigbfieaaW.PrintWords

theorem drawSum_ev (l : List Int) (h : ∀ x ∈ l, (Lit.int .u8 x).wf = true) : ∃ t : ByteArray, Ev (fun k => spec_DrawSumOf.f k l) t ∧ t.size ≤ 11 := by
  obtain ⟨b, hb, hc⟩ := open_ev l h
  obtain ⟨t, q, ht, hs, _, _⟩ := text_ev hc 0 11 (by omega) (by omega)
  refine ⟨t, ?_, by omega⟩
  unfold spec_DrawSumOf.f
  exact Ev.take hb (Ev.bind ht (Ev.ret rfl))
theorem wsum_one (s t : ByteArray) (a : Nat) (h : ∀ i : Nat, i ≠ a → bt t (i : Int) = bt s (i : Int)) (n : Nat) :
    wsum t n = wsum s n + if a < n then (bt t (a : Int) - bt s (a : Int)) * (65536 + ((a : Int) + 1)) else 0 := by
  induction n with
  | zero => simp [wsum]
  | succ n ih =>
    simp only [wsum]
    rw [ih]
    by_cases e : n = a
    · subst e
      rw [if_neg (by omega), if_pos (by omega), Int.sub_mul]
      omega
    · rw [h n e]
      by_cases h1 : a < n
      · rw [if_pos h1, if_pos (by omega)]
        omega
      · rw [if_neg h1, if_neg (by omega)]
        omega
theorem two_terms_at (x y q k : Int) (hq : 65537 ≤ q) (hx : x ≠ 0 ∧ -255 ≤ x ∧ x ≤ 255) (hk : k ≠ 0 ∧ -8 ≤ k ∧ k ≤ 8) : x * (q + k) + y * q ≠ 0 := by
  intro h
  rw [Int.mul_add] at h
  have h1 : (x + y) * q = x * q + y * q := Int.add_mul ..
  have h2 : x * k ≠ 0 := fun h0 => by
    rcases Int.mul_eq_zero.1 h0 with h0 | h0
    · exact hx.1 h0
    · exact hk.1 h0
  have h3 : -2040 ≤ x * k ∧ x * k ≤ 2040 := by
    have hk' : k = -8 ∨ k = -7 ∨ k = -6 ∨ k = -5 ∨ k = -4 ∨ k = -3 ∨ k = -2 ∨ k = -1 ∨ k = 1 ∨ k = 2 ∨ k = 3 ∨ k = 4 ∨ k = 5 ∨ k = 6 ∨ k = 7 ∨ k = 8 := by omega
    clear h h1 h2 hq
    rcases hk' with rfl | rfl | rfl | rfl | rfl | rfl | rfl | rfl | rfl | rfl | rfl | rfl | rfl | rfl | rfl | rfl <;> omega
  rcases Int.lt_trichotomy (x + y) 0 with he | he | he
  · have := Int.mul_le_mul_of_nonneg_right (show x + y ≤ -1 by omega) (show 0 ≤ q by omega)
    omega
  · rw [he] at h1
    omega
  · have := Int.mul_le_mul_of_nonneg_right (show 1 ≤ x + y by omega) (show 0 ≤ q by omega)
    omega
theorem two_terms (x y : Int) (a c : Nat) (hx : x ≠ 0 ∧ -255 ≤ x ∧ x ≤ 255) (ha : a ≤ 8) (hc : c ≤ 8) (hac : a ≠ c) :
    x * (65536 + ((a : Int) + 1)) + y * (65536 + ((c : Int) + 1)) ≠ 0 := by
  have h := two_terms_at x y (65536 + ((c : Int) + 1)) ((a : Int) - c) (by omega) hx (by omega)
  rw [show 65536 + ((c : Int) + 1) + ((a : Int) - c) = 65536 + ((a : Int) + 1) by omega] at h
  exact h
theorem one_term (x : Int) (a : Nat) (hx : x ≠ 0) : x * (65536 + ((a : Int) + 1)) ≠ 0 := by
  intro h
  rcases Int.mul_eq_zero.1 h with h | h
  · exact hx h
  · omega

theorem sumOne_j3 (s : ByteArray) (m : List Int) (hs : 1 ≤ s.size ∧ s.size ≤ 9) (hm : m.length ≤ 1048576) (a : Nat) (ha : a < s.size) (y : Int) (hy : IsByte y) (hy0 : y ≠ 0) :
    Ev (fun k => laws_FnSumOne.j3 k m s (wsum s (nine s)) (a : Int) y) true := by
  have hn : nine s = s.size := by unfold nine; omega
  have hd : 0 ≤ (m.length : Int) / (s.size : Int) ∧ (m.length : Int) / (s.size : Int) ≤ (m.length : Int) := ⟨Int.ediv_nonneg (by omega) (by omega), Int.ediv_le_self _ (by omega)⟩
  generalize hq : (m.length : Int) / (s.size : Int) = q at hd
  have e1 : wrap64 ((a : Int) + 1) = (a : Int) + 1 := wrap_ok (by omega)
  have e2 : wrap64 q = q := wrap_ok (by omega)
  have e3 : wrap64 ((a : Int) + 1 + q) = (a : Int) + 1 + q := wrap_ok (by omega)
  have hb := tmod_bd (x := (a : Int) + 1 + q) (n := (s.size : Int)) (by omega) (by omega)
  refine Ev.next ?_
  simp only [laws_FnSumOne.j3, hq, e1, e2, e3]
  clear e1 e2 e3
  obtain ⟨c, hc⟩ := Int.eq_ofNat_of_zero_le hb.1
  rw [hc] at hb
  simp only [hc]
  have hz := chg_size s a y
  have hz2 := chg_size (chg s a y) c y
  have hn1 : nine (chg s a y) = s.size := by unfold nine; omega
  have hn2 : nine (chg (chg s a y) c y) = s.size := by unfold nine; omega
  have b1 := bt_chg s a y ha hy
  have b2 := bt_chg (chg s a y) c y (by omega) hy
  have w1 := wsum_one s (chg s a y) a (fun i hi => by rw [b1, if_neg hi]) s.size
  have w2 := wsum_one (chg s a y) (chg (chg s a y) c y) c (fun i hi => by rw [b2, if_neg hi]) s.size
  rw [if_pos ha, b1, if_pos rfl] at w1
  rw [if_pos (by omega), b2, if_pos rfl] at w2
  have d1 := xb_ne (bt_byte s (a : Int)) hy hy0
  have d2 := xb_ne (bt_byte (chg s a y) (c : Int)) hy hy0
  have r1 := xb_byte (bt_byte s (a : Int)) hy
  have r2 := xb_byte (bt_byte (chg s a y) (c : Int)) hy
  have r3 := bt_byte s (a : Int)
  have r4 := bt_byte (chg s a y) (c : Int)
  unfold IsByte at r1 r2 r3 r4
  have o1 := one_term (xb (bt s (a : Int)) y - bt s (a : Int)) a (by omega)
  refine Ev.take (changed_eq s a y ha (by omega)) (Ev.neg (by omega) (Ev.take (changed_eq _ c y (by omega) (by omega)) (Ev.take (implSum_eq _) (Ev.neg ?_ ?_))))
  · rw [hn1, hn, w1]
    omega
  · by_cases hca : c = a
    · exact Ev.pos (by omega) (Ev.ret rfl)
    · refine Ev.neg (by omega) (Ev.take (implSum_eq _) (Ev.ret ?_))
      rw [hn2, hn, w2, w1]
      have o2 := two_terms _ (xb (bt (chg s a y) (c : Int)) y - bt (chg s a y) (c : Int)) a c ⟨show xb (bt s (a : Int)) y - bt s (a : Int) ≠ 0 by omega, by omega, by omega⟩ (by omega) (by omega) (Ne.symm hca)
      rw [bne_iff_ne]
      omega
theorem FnSumOne : laws_FnSumOne.Pure := by
  intro l m _ _ hw _ _ hwm
  apply Ev.rounds
  have hbm := wf_u8 hwm
  have early : Ev (fun k => laws_FnSumOne.j0 k l m true) true := by
    refine Ev.next ?_
    simp only [laws_FnSumOne.j0]
    exact Ev.pos trivial (Ev.ret rfl)
  unfold laws_FnSumOne.f
  refine Ev.ite (fun _ => early) (fun _ => Ev.next ?_)
  simp only [laws_FnSumOne.j0]
  refine Ev.ite (fun _ => Ev.ret rfl) (fun hm => ?_)
  have hm : m.length ≤ 1048576 := by simp at hm; omega
  obtain ⟨s, hd, hs⟩ := drawSum_ev l hw
  have last : ∀ c : Bool, (c = false → 1 ≤ s.size ∧ s.size ≤ 9) → Ev (fun k => laws_FnSumOne.j1 k m s (wsum s (nine s)) c) true := by
    intro c hc
    refine Ev.next ?_
    simp only [laws_FnSumOne.j1]
    refine Ev.ite (fun _ => Ev.bind (specSum_ev s) (Ev.ret (by simp))) (fun h => ?_)
    have hz := hc (by simpa using h)
    have hm1 := Int.emod_nonneg (m.length : Int) (show (s.size : Int) ≠ 0 by omega)
    have hm2 := Int.emod_lt_of_pos (m.length : Int) (show (0 : Int) < (s.size : Int) by omega)
    obtain ⟨a, ha⟩ := Int.eq_ofNat_of_zero_le hm1
    rw [ha] at hm2 ⊢
    refine Ev.neg (by omega) (Ev.ite (fun h0 => Ev.pos (by omega) (Ev.next ?_)) (fun h0 => Ev.next ?_))
    · simp only [laws_FnSumOne.j2]
      have hr := rd_bd m hbm 0
      refine Ev.ite (fun hp => Ev.pos (by omega) (sumOne_j3 s m hz hm a (by omega) _ hr ?_)) (fun _ => sumOne_j3 s m hz hm a (by omega) 1 ⟨by omega, by omega⟩ (by omega))
      have : rd m 0 > 0 := by simpa using hp
      omega
    · simp only [laws_FnSumOne.j2]
      exact Ev.neg (by simp) (sumOne_j3 s m hz hm a (by omega) 1 ⟨by omega, by omega⟩ (by omega))
  refine Ev.bind hd (Ev.take (implSum_eq s) (Ev.bind (specSum_ev s) (Ev.pos rfl (Ev.ite (fun h0 => last _ (fun h => by cases h)) (fun h0 => last _ (fun h => ?_))))))
  simp at h
  omega
end Go.Proofs.Ytoelfgkigbfieaa.Pure
