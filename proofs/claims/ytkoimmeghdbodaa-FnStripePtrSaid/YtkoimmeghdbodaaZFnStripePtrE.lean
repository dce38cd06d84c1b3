/- Proved, with what follows on it: the row of the law FnStripePtr. Conditions: the row's alone. Texts of this session and words that the kit's print laid for this seat, merged and cut by shrink.py, a program of this session. -/
import Derived.Below
import Derived.ChangeOld
import Derived.OpenShut
import Derived.ProofKit
import Derived.ShutString
import Derived.SizedLaws
import Derived.WalkKit
import Derived.Test.YtkoimmeghdbodaaRows
import Derived.Test.YtkoimmeghdbodaaZFnStripePtrD
namespace Go.Proofs.Ytkoimmeghdbodaa.Pure
open Go.RowKit Go.Proofs.Ytkoimmeghdbodaa.Print Go.Proofs.YtkoimmeghdbodaaW.PrintWords
theorem l6In_eq (n lo hi : Int) : spec_l6In.f n lo hi = some (decide (lo ≤ n ∧ n ≤ hi)) := by
  unfold spec_l6In.f
  by_cases h : n ≥ lo
  · rw [if_pos h]
    congr 1
    by_cases h2 : n ≤ hi
    · rw [decide_eq_true h2, decide_eq_true ⟨h, h2⟩]
    · rw [decide_eq_false h2, decide_eq_false (fun h3 => h2 h3.2)]
  · rw [if_neg h, decide_eq_false (fun h3 => h h3.1)]
def plAt (l : List S37) (i : Nat) : S37 := l.getD i z37
theorem rd37_nat (l : List S37) (i : Nat) : rd_T37 l (i : Int) = plAt l i := by simp [rd_T37, plAt]
def PlaceIn (n : Int) (p : S37) : Prop := (0 ≤ p.f0 ∧ p.f0 < n) ∧ 0 ≤ p.f1 ∧ p.f1 < 12
def GoodAt (n : Int) (l : List S37) (i : Nat) : Prop := PlaceIn n (plAt l i) ∧ ∀ k, k < i → (plAt l k).f0 ≠ (plAt l i).f0
def AllGood (n : Int) (l : List S37) : Prop := ∀ i, i < l.length → GoodAt n l i
theorem spec_l1_good {n s m : Int} {l : List S37} (hl : l.length ≤ 1099511627776) {i : Nat} (hi : i < l.length) {r : Bool} (k : Ev (fun k => spec_l2Ptr.l0 k n ((i + 1 : Nat) : Int) s m l) r) (d : Nat) :
    ∀ q : Nat, q + d = i → (∀ j, q ≤ j → j < i → (plAt l j).f0 ≠ (plAt l i).f0) → Ev (fun k => spec_l2Ptr.l1 k n (i : Int) (q : Int) s m l) r := by
  have e : wrap64 ((i : Int) + 1) = ((i + 1 : Nat) : Int) := by rw [wrap_ok (by omega)]; omega
  induction d with
  | zero =>
    intro q hq _
    refine Ev.next ?_
    simp only [spec_l2Ptr.l1, e]
    clear e
    exact Ev.neg (by omega) k
  | succ d ih =>
    intro q hq h
    have e2 : wrap64 ((q : Int) + 1) = ((q + 1 : Nat) : Int) := by rw [wrap_ok (by omega)]; omega
    have hih := ih (q + 1) (by omega) (fun j h1 h2 => h j (by omega) h2)
    refine Ev.next ?_
    simp only [spec_l2Ptr.l1, e2, rd37_nat]
    clear e e2
    exact Ev.pos (by omega) (Ev.pos (by omega) (Ev.pos (by omega) (Ev.pos (by omega) (Ev.pos (by omega) (Ev.neg (h q (by omega) (by omega)) hih)))))
theorem spec_l1_bad {n s m : Int} {l : List S37} (hl : l.length ≤ 1099511627776) {i : Nat} (hi : i < l.length) (d : Nat) :
    ∀ q : Nat, q + d = i → (∃ j, q ≤ j ∧ j < i ∧ (plAt l j).f0 = (plAt l i).f0) → Ev (fun k => spec_l2Ptr.l1 k n (i : Int) (q : Int) s m l) false := by
  induction d with
  | zero =>
    rintro q hq ⟨j, h1, h2, _⟩
    omega
  | succ d ih =>
    rintro q hq ⟨j, h1, h2, h3⟩
    have e2 : wrap64 ((q : Int) + 1) = ((q + 1 : Nat) : Int) := by rw [wrap_ok (by omega)]; omega
    refine Ev.next ?_
    simp only [spec_l2Ptr.l1, e2, rd37_nat]
    clear e2
    refine Ev.pos (by omega) (Ev.pos (by omega) (Ev.pos (by omega) (Ev.pos (by omega) (Ev.pos (by omega) (Ev.ite (fun _ => Ev.ret rfl) (fun hne => ih (q + 1) (by omega) ⟨j, ?_, h2, h3⟩))))))
    by_cases e : j = q
    · subst e
      exact absurd h3 hne
    · omega
open Classical in
theorem spec_l0_ev {n s m : Int} (hn : 3 ≤ n ∧ n ≤ 4) {l : List S37} (hl : l.length ≤ 1099511627776) (d : Nat) : ∀ i : Nat, i + d = l.length →
    Ev (fun k => spec_l2Ptr.l0 k n (i : Int) s m l) (decide (∀ j, i ≤ j → j < l.length → GoodAt n l j)) := by
  induction d with
  | zero =>
    intro i hi
    refine Ev.next ?_
    simp only [spec_l2Ptr.l0]
    refine Ev.neg (by omega) (Ev.ret ?_)
    rw [decide_eq_true]
    intro j h1 h2
    omega
  | succ d ih =>
    intro i hi
    have hih := ih (i + 1) (by omega)
    have e : wrap64 (n - 1) = n - 1 := wrap_ok (by omega)
    refine Ev.next ?_
    simp only [spec_l2Ptr.l0, e, rd37_nat]
    clear e
    refine Ev.pos (by omega) (Ev.pos (by omega) (Ev.take (l6In_eq _ _ _) ?_))
    by_cases h1 : 0 ≤ (plAt l i).f0 ∧ (plAt l i).f0 ≤ n - 1
    · refine Ev.pos (by simpa using h1) (Ev.take (l6In_eq _ _ _) (Ev.next ?_))
      simp only [spec_l2Ptr.j2]
      by_cases h2 : 0 ≤ (plAt l i).f1 ∧ (plAt l i).f1 ≤ 11
      · refine Ev.neg (by simpa using h2) ?_
        by_cases h3 : ∀ j, j < i → (plAt l j).f0 ≠ (plAt l i).f0
        · have hg : GoodAt n l i := ⟨⟨⟨h1.1, by omega⟩, h2.1, by omega⟩, h3⟩
          have : (∀ j, i ≤ j → j < l.length → GoodAt n l j) ↔ (∀ j, i + 1 ≤ j → j < l.length → GoodAt n l j) :=
            ⟨fun h j h1 h2 => h j (by omega) h2, fun h j h1 h2 => by
              by_cases e : j = i
              · rw [e]; exact hg
              · exact h j (by omega) h2⟩
          simp only [this]
          exact spec_l1_good hl (by omega) hih i 0 (Nat.zero_add _) (fun j _ h => h3 j h)
        · have hx : ∃ j, 0 ≤ j ∧ j < i ∧ (plAt l j).f0 = (plAt l i).f0 := by
            apply Classical.byContradiction
            intro hc
            exact h3 fun j hj he => hc ⟨j, Nat.zero_le _, hj, he⟩
          rw [decide_eq_false (fun h => h3 (h i (Nat.le_refl _) (by omega)).2)]
          exact spec_l1_bad hl (by omega) i 0 (Nat.zero_add _) hx
      · refine Ev.pos (by rw [decide_eq_false h2]; rfl) (Ev.ret ?_)
        rw [decide_eq_false]
        intro h
        have := (h i (Nat.le_refl _) (by omega)).1.2
        exact h2 ⟨this.1, by omega⟩
    · refine Ev.neg (by simpa using h1) (Ev.next ?_)
      simp only [spec_l2Ptr.j2]
      refine Ev.pos trivial (Ev.ret ?_)
      rw [decide_eq_false]
      intro h
      have := (h i (Nat.le_refl _) (by omega)).1.1
      exact h1 ⟨this.1, by omega⟩
theorem placeOk_eq (p : S37) (n : Int) [Decidable (PlaceIn n p)] : impl_Place_ok.f p.f0 p.f1 n = some (decide (PlaceIn n p)) := by
  unfold impl_Place_ok.f
  by_cases h1 : p.f0 ≥ 0
  · by_cases h2 : p.f0 < n
    · by_cases h3 : p.f1 ≥ 0
      · rw [if_pos h1, if_pos h2, if_pos h3]
        congr 1
        by_cases h4 : p.f1 < 12
        · rw [decide_eq_true h4, decide_eq_true (show PlaceIn n p from ⟨⟨h1, h2⟩, h3, h4⟩)]
        · rw [decide_eq_false h4, decide_eq_false (fun h : PlaceIn n p => h4 h.2.2)]
      · rw [if_pos h1, if_pos h2, if_neg h3, decide_eq_false (fun h : PlaceIn n p => h3 h.2.1)]
    · rw [if_pos h1, if_neg h2, decide_eq_false (fun h : PlaceIn n p => h2 h.1.2)]
  · rw [if_neg h1, decide_eq_false (fun h : PlaceIn n p => h1 h.1.1)]
theorem any_take (l : List S37) (i : Nat) (hi : i ≤ l.length) (x : Int) : ((l.take i).any fun y => y.f0 == x) = true ↔ ∃ j, j < i ∧ (plAt l j).f0 = x := by
  rw [List.any_eq_true]
  constructor
  · rintro ⟨y, hy, he⟩
    obtain ⟨j, hj, rfl⟩ := List.getElem_of_mem hy
    simp only [List.length_take] at hj
    refine ⟨j, by omega, ?_⟩
    have hjl : j < l.length := by omega
    simpa [plAt, List.getD, hjl] using he
  · rintro ⟨j, hj, he⟩
    have hjl : j < l.length := by omega
    refine ⟨l[j], ?_, by simpa [plAt, List.getD, hjl] using he⟩
    rw [List.mem_take_iff_getElem]
    exact ⟨j, by omega, rfl⟩
open Classical in
theorem impl_l0_ev {n s m : Int} {l : List S37} (hl : l.length ≤ 1099511627776) (d : Nat) : ∀ i : Nat, i + d = l.length →
    Ev (fun k => impl_PtrOk.l0 k n l (l.length : Int) (i : Int) s m l) (decide (∀ j, i ≤ j → j < l.length → GoodAt n l j)) := by
  induction d with
  | zero =>
    intro i hi
    refine Ev.next ?_
    simp only [impl_PtrOk.l0]
    refine Ev.neg (by omega) (Ev.ret ?_)
    rw [decide_eq_true]
    intro j h1 h2
    omega
  | succ d ih =>
    intro i hi
    have hih := ih (i + 1) (by omega)
    have e : wrap64 ((i : Int) + 1) = ((i + 1 : Nat) : Int) := by rw [wrap_ok (by omega)]; omega
    refine Ev.next ?_
    simp only [impl_PtrOk.l0, e, rd37_nat, Int.toNat_natCast]
    clear e
    refine Ev.pos (by omega) (Ev.pos (by omega) (Ev.pos (by omega) (Ev.take (placeOk_eq _ _) ?_)))
    by_cases h1 : PlaceIn n (plAt l i)
    · refine Ev.pos (by simpa using h1) (Ev.pos (by omega) (Ev.take rfl ?_))
      by_cases h2 : ∃ j, j < i ∧ (plAt l j).f0 = (plAt l i).f0
      · refine Ev.pos ((any_take l i (by omega) _).2 h2) (Ev.ret ?_)
        rw [decide_eq_false]
        intro h
        obtain ⟨j, hj, he⟩ := h2
        exact (h i (Nat.le_refl _) (by omega)).2 j hj he
      · refine Ev.neg (fun h => h2 ((any_take l i (by omega) _).1 h)) ?_
        have hg : GoodAt n l i := ⟨h1, fun j hj he => h2 ⟨j, hj, he⟩⟩
        have : (∀ j, i ≤ j → j < l.length → GoodAt n l j) ↔ (∀ j, i + 1 ≤ j → j < l.length → GoodAt n l j) :=
          ⟨fun h j h1 h2 => h j (by omega) h2, fun h j h1 h2 => by
            by_cases e : j = i
            · rw [e]; exact hg
            · exact h j (by omega) h2⟩
        simp only [this]
        exact hih
    · refine Ev.neg (by simpa using h1) (Ev.ret ?_)
      rw [decide_eq_false]
      intro h
      exact h1 (h i (Nat.le_refl _) (by omega)).1
def PtrGood (n s m : Int) (l : List S37) : Prop := (s = 0 ∧ m = 0 ∧ l.length = 0) ∨ ((1 ≤ s ∧ s ≤ 3 * (n - 1)) ∧ (0 ≤ m ∧ m ≤ 1000000000) ∧ (l.length : Int) = (s + 2) / 3 + 1 ∧ AllGood n l)
theorem cols_eq {s : Int} (h : 0 ≤ s ∧ s ≤ 1099511627776) : wrap64 (Int.tdiv (wrap64 ((wrap64 (s + 3)) - 1)) 3) = (s + 2) / 3 := by
  rw [wrap_ok (x := s + 3) (by omega), wrap_ok (x := s + 3 - 1) (by omega), Int.tdiv_eq_ediv_of_nonneg (by omega), wrap_ok (by omega)]
  omega
theorem most_eq {n : Int} (hn : 3 ≤ n ∧ n ≤ 4) : wrap64 (3 * (mn 3 (wrap64 (n - 1)))) = 3 * (n - 1) := by
  rw [wrap_ok (x := n - 1) (by omega)]
  have : mn 3 (n - 1) = n - 1 := by unfold mn; split <;> omega
  rw [this, wrap_ok (by omega)]
open Classical in
noncomputable def ptrB (n s m : Int) (l : List S37) : Bool := decide ((3 ≤ n ∧ n ≤ 4) ∧ PtrGood n s m l)
open Classical in
theorem spec_l2Ptr_ev {n : Int} (hn : 3 ≤ n ∧ n ≤ 4) (s m : Int) (l : List S37) (hl : l.length ≤ 1099511627776) : Ev (fun k => spec_l2Ptr.f k n s m l) (decide (PtrGood n s m l)) := by
  unfold spec_l2Ptr.f
  have bad : ∀ h : ¬ PtrGood n s m l, Ev (fun k => spec_l2Ptr.j0 k n true s m l) (decide (PtrGood n s m l)) := by
    intro h
    refine Ev.next ?_
    simp only [spec_l2Ptr.j0]
    exact Ev.pos trivial (Ev.ret (decide_eq_false h).symm)
  by_cases h0 : s = 0
  · refine Ev.pos h0 ?_
    by_cases hm : m = 0
    · refine Ev.pos hm (Ev.ret ?_)
      by_cases hz : l.length = 0
      · rw [decide_eq_true (show PtrGood n s m l from Or.inl ⟨h0, hm, hz⟩)]
        simp [hz]
      · rw [decide_eq_false]
        · simp only [beq_eq_false_iff_ne]
          omega
        · rintro (h | h)
          · exact hz h.2.2
          · omega
    · refine Ev.neg hm (Ev.ret ?_)
      rw [decide_eq_false]
      rintro (h | h)
      · exact hm h.2.1
      · omega
  · refine Ev.neg h0 ?_
    rw [most_eq hn]
    refine Ev.take (l6In_eq _ _ _) ?_
    by_cases h1 : 1 ≤ s ∧ s ≤ 3 * (n - 1)
    · refine Ev.pos (by simpa using h1) (Ev.take (l6In_eq _ _ _) ?_)
      by_cases h2 : 0 ≤ m ∧ m ≤ 1000000000
      · refine Ev.pos (by simpa using h2) (Ev.take rfl ?_)
        rw [cols_eq (by omega), wrap_ok (x := (s + 2) / 3 + 1) (by omega)]
        by_cases h3 : (l.length : Int) = (s + 2) / 3 + 1
        · refine Ev.next ?_
          simp only [spec_l2Ptr.j0]
          refine Ev.neg (by simp [h3]) ?_
          have := spec_l0_ev (s := s) (m := m) hn hl l.length 0 (Nat.zero_add _)
          have e : (∀ j, 0 ≤ j → j < l.length → GoodAt n l j) ↔ PtrGood n s m l :=
            ⟨fun h => Or.inr ⟨h1, h2, h3, fun i hi => h i (Nat.zero_le _) hi⟩, fun h j _ hj => by
              rcases h with h | h
              · omega
              · exact h.2.2.2 j hj⟩
          simp only [e] at this
          exact this
        · have : ((l.length : Int) != (s + 2) / 3 + 1) = true := by simpa using h3
          rw [this]
          exact bad (by
            rintro (h | h)
            · exact h0 h.1
            · exact h3 h.2.2.1)
      · exact Ev.neg (by simpa using h2) (bad (by
          rintro (h | h)
          · exact h0 h.1
          · exact h2 h.2.1))
    · exact Ev.neg (by simpa using h1) (bad (by
        rintro (h | h)
        · exact h0 h.1
        · exact h1 h.1))
open Classical in
theorem implPtr_ev (n s m : Int) (l : List S37) (hl : l.length ≤ 1099511627776) : Ev (fun k => impl_PtrOk.f k n s m l) (ptrB n s m l) := by
  unfold impl_PtrOk.f ptrB
  refine Ev.take (a := decide (3 ≤ n ∧ n ≤ 4)) (by
    unfold impl_isPool.f
    by_cases h : n ≥ 3
    · rw [if_pos h]
      congr 1
      by_cases h2 : n ≤ 4
      · rw [decide_eq_true h2, decide_eq_true ⟨h, h2⟩]
      · rw [decide_eq_false h2, decide_eq_false (fun h3 => h2 h3.2)]
    · rw [if_neg h, decide_eq_false (fun h3 => h h3.1)]) ?_
  by_cases hn : 3 ≤ n ∧ n ≤ 4
  · refine Ev.pos (by simpa using hn) ?_
    have bad : ∀ h : ¬ PtrGood n s m l, Ev (fun k => impl_PtrOk.j0 k n true s m l) (decide ((3 ≤ n ∧ n ≤ 4) ∧ PtrGood n s m l)) := by
      intro h
      refine Ev.next ?_
      simp only [impl_PtrOk.j0]
      exact Ev.pos trivial (Ev.ret (decide_eq_false (fun hh => h hh.2)).symm)
    have hz : impl_Ptr_none.f s m l = some (decide (s = 0 ∧ m = 0 ∧ l.length = 0)) := by
      unfold impl_Ptr_none.f
      by_cases h1 : s = 0
      · by_cases h2 : m = 0
        · rw [if_pos h1, if_pos h2]
          congr 1
          by_cases h3 : l.length = 0
          · rw [decide_eq_true ⟨h1, h2, h3⟩]
            simp [h3]
          · rw [decide_eq_false (fun h => h3 h.2.2)]
            simp only [beq_eq_false_iff_ne]
            omega
        · rw [if_pos h1, if_neg h2, decide_eq_false (fun h => h2 h.2.1)]
      · rw [if_neg h1, decide_eq_false (fun h => h1 h.1)]
    refine Ev.take hz ?_
    by_cases h0 : s = 0 ∧ m = 0 ∧ l.length = 0
    · exact Ev.pos (by simpa using h0) (Ev.ret (decide_eq_true ⟨hn, Or.inl h0⟩).symm)
    · refine Ev.neg (by simpa using h0) ?_
      refine Ev.ite (fun h1 => bad (by
        rintro (h | h)
        · exact h0 h
        · omega)) (fun h1 => ?_)
      refine Ev.take (a := 3 * (n - 1)) (by unfold impl_textMost.f; rw [most_eq hn]) ?_
      refine Ev.ite (fun h2 => bad (by
        rintro (h | h)
        · exact h0 h
        · omega)) (fun h2 => ?_)
      refine Ev.ite (fun h3 => bad (by
        rintro (h | h)
        · exact h0 h
        · omega)) (fun h3 => ?_)
      refine Ev.ite (fun h4 => bad (by
        rintro (h | h)
        · exact h0 h
        · omega)) (fun h4 => ?_)
      refine Ev.take (a := (s + 2) / 3) (by unfold impl_columns.f; rw [cols_eq (by omega)]) ?_
      rw [wrap_ok (x := (s + 2) / 3 + 1) (by omega)]
      by_cases h5 : (l.length : Int) = (s + 2) / 3 + 1
      · refine Ev.next ?_
        simp only [impl_PtrOk.j0]
        refine Ev.neg (by simp [h5]) ?_
        have := impl_l0_ev (n := n) (s := s) (m := m) hl l.length 0 (Nat.zero_add _)
        have e : (∀ j, 0 ≤ j → j < l.length → GoodAt n l j) ↔ ((3 ≤ n ∧ n ≤ 4) ∧ PtrGood n s m l) :=
          ⟨fun h => ⟨hn, Or.inr ⟨by omega, by omega, h5, fun i hi => h i (Nat.zero_le _) hi⟩⟩, fun h j _ hj => by
            rcases h.2 with h | h
            · omega
            · exact h.2.2.2 j hj⟩
        simp only [e] at this
        exact this
      · have : ((l.length : Int) != (s + 2) / 3 + 1) = true := by simpa using h5
        rw [this]
        exact bad (by
          rintro (h | h)
          · exact h0 h
          · exact h5 h.2.2.1)
  · refine Ev.neg (by simpa using hn) (Ev.ret ?_)
    rw [decide_eq_false (fun h => hn h.1)]
end Go.Proofs.Ytkoimmeghdbodaa.Pure
namespace Go.Proofs.Ytkoimmeghdbodaa.Pure
open Go.RowKit Go.Proofs.Ytkoimmeghdbodaa.Print Go.Proofs.YtkoimmeghdbodaaW.PrintWords
theorem term_bd (s : ByteArray) (i : Nat) (h : i ≤ 2097152) : 0 ≤ bt s (i : Int) * (65536 + ((i : Int) + 1)) ∧ bt s (i : Int) * (65536 + ((i : Int) + 1)) ≤ 255 * (65536 + ((i : Int) + 1)) := by
  have hb := bt_bd s (i : Int)
  exact ⟨Int.mul_nonneg hb.1 (by omega), Int.mul_le_mul_of_nonneg_right (by omega) (by omega)⟩
theorem wsum_bd (s : ByteArray) (k : Nat) (h : k ≤ 9) : 0 ≤ wsum s k ∧ wsum s k ≤ k * 16713975 := by
  induction k with
  | zero => simp [wsum]
  | succ k ih =>
    have := ih (by omega)
    have ht := term_bd s k (by omega)
    simp only [wsum]
    omega
theorem wsum_congr {s t : ByteArray} (k : Nat) (h : ∀ i : Nat, i < k → bt s (i : Int) = bt t (i : Int)) : wsum s k = wsum t k := by
  induction k with
  | zero => rfl
  | succ k ih =>
    simp only [wsum]
    rw [ih (fun i hi => h i (by omega)), h k (by omega)]
def nine (s : ByteArray) : Nat := min s.size 9
theorem specSum_l0 (s : ByteArray) (d : Nat) : ∀ i : Nat, i + d = nine s → Ev (fun k => spec_SumOf.l0 k s (wsum s i) (i : Int)) (wsum s (nine s)) := by
  induction d with
  | zero =>
    intro i hi
    refine Ev.next ?_
    simp only [spec_SumOf.l0]
    have hi' : i = nine s := by omega
    by_cases h : (i : Int) < (s.size : Int)
    · exact Ev.pos h (Ev.neg (by unfold nine at hi'; omega) (Ev.ret (by rw [hi'])))
    · exact Ev.neg h (Ev.ret (by rw [hi']))
  | succ d ih =>
    intro i hi
    have hn : nine s ≤ 9 ∧ nine s ≤ s.size := by unfold nine; omega
    refine Ev.next ?_
    simp only [spec_SumOf.l0]
    have hb := bt_bd s (i : Int)
    have ht := term_bd s i (by omega)
    have hw := wsum_bd s i (by omega)
    have e1 : wrap64 (bt s (i : Int)) = bt s (i : Int) := wrap_ok (by omega)
    have e2 : wrap64 (65536 + (i : Int)) = 65536 + (i : Int) := wrap_ok (by omega)
    have e3 : wrap64 (65536 + (i : Int) + 1) = 65536 + ((i : Int) + 1) := by rw [wrap_ok (by omega)]; omega
    have e4 : wrap64 (bt s (i : Int) * (65536 + ((i : Int) + 1))) = bt s (i : Int) * (65536 + ((i : Int) + 1)) := wrap_ok (by omega)
    have e5 : wrap64 (wsum s i + bt s (i : Int) * (65536 + ((i : Int) + 1))) = wsum s (i + 1) := by
      rw [wrap_ok (by omega)]
      simp only [wsum]
    have e6 : wrap64 ((i : Int) + 1) = ((i + 1 : Nat) : Int) := by rw [wrap_ok (by omega)]; omega
    simp only [e1, e2, e3, e4, e5, e6]
    clear e1 e2 e3 e4 e5 e6
    exact Ev.pos (by omega) (Ev.pos (by omega) (Ev.pos (by omega) (ih (i + 1) (by omega))))
theorem specSum_ev (s : ByteArray) : Ev (fun k => spec_SumOf.f k s) (wsum s (nine s)) := by
  unfold spec_SumOf.f
  exact specSum_l0 s (nine s) 0 (by omega)
theorem implSum_eq (s : ByteArray) : impl_SumOf.f s = some (wsum s (nine s)) := by
  have hm : mn (s.size : Int) 9 = ((nine s : Nat) : Int) := by unfold mn nine; omega
  have hn : nine s ≤ 9 ∧ nine s ≤ s.size := by unfold nine; omega
  have hz : (s.extract 0 (nine s)).size = nine s := by rw [size_extract _ _ _ hn.2]; omega
  unfold impl_SumOf.f impl_weigh.f
  rw [hm, if_pos (by omega), if_pos (by omega), Int.toNat_natCast, hz, if_pos (by omega)]
  simp only [Option.bind_some]
  exact congrArg some (wsum_congr (nine s) (fun i hi => by rw [bt_extract s 0 (nine s) i hn.2 (by omega), Nat.zero_add]))
end Go.Proofs.Ytkoimmeghdbodaa.Pure
namespace Go.Proofs.Ytkoimmeghdbodaa.Pure
open Go.RowKit Go.Proofs.Ytkoimmeghdbodaa.Print Go.Proofs.YtkoimmeghdbodaaW.PrintWords
theorem toList_nil {s : ByteArray} : s.toList = ([] : List UInt8) ↔ s.size = 0 := by
  rw [ByteArray.toList_eq]
  constructor
  · intro h
    have := congrArg List.length h
    simpa using this
  · intro h
    exact List.eq_nil_of_length_eq_zero (by simpa using h)
def StripeGood (s : ByteArray) (l : List S37) : Prop := s.size ≠ 0 ∧ PtrGood 4 (s.size : Int) (wsum s (nine s)) l
open Classical in
noncomputable def stripeR (s : ByteArray) (l : List S37) : Int × Int × List S37 × Bool := if StripeGood s l then ((s.size : Int), wsum s (nine s), l, true) else (0, 0, [], false)
open Classical in
theorem implStripe_ev (s : ByteArray) (l : List S37) (hl : l.length ≤ 1099511627776) : Ev (fun k => impl_StripePtr.f k s l) (stripeR s l) := by
  unfold impl_StripePtr.f stripeR
  refine Ev.take (implSum_eq s) (Ev.take (a := l) (by unfold slices_Clone_Place.f; rw [Option.bind_some, if_pos (by simp; omega), List.nil_append]) ?_)
  refine Ev.ite (fun h => Ev.ret ?_) (fun h => Ev.bind (implPtr_ev 4 _ _ l hl) ?_)
  · rw [if_neg (fun hg : StripeGood s l => hg.1 (toList_nil.1 h))]
  · have hs : s.size ≠ 0 := fun h0 => h (toList_nil.2 h0)
    by_cases hg : PtrGood 4 (s.size : Int) (wsum s (nine s)) l
    · refine Ev.pos (decide_eq_true ⟨by omega, hg⟩) (Ev.ret ?_)
      rw [if_pos (show StripeGood s l from ⟨hs, hg⟩)]
    · refine Ev.neg (by unfold ptrB; rw [decide_eq_false (fun h => hg h.2)]; decide) (Ev.ret ?_)
      rw [if_neg (fun h : StripeGood s l => hg h.2)]
theorem l11Ptr_ev (s : ByteArray) (l : List S37) (hl : l.length ≤ 1099511627776) : Ev (fun k => spec_l11Ptr.f k s l) ((s.size : Int), wsum s (nine s), l) := by
  unfold spec_l11Ptr.f
  exact Ev.bind (specSum_ev s) (Ev.take rfl (Ev.pos (by simp; omega) (Ev.ret (by simp))))
open Classical in
theorem specStripe_ev (s : ByteArray) (l : List S37) (hl : l.length ≤ 1099511627776) : Ev (fun k => spec_StripePtr.f k s l) (stripeR s l) := by
  unfold spec_StripePtr.f stripeR
  refine Ev.bind (l11Ptr_ev s l hl) (Ev.bind (spec_l2Ptr_ev (by omega) _ _ l hl) ?_)
  by_cases hg : PtrGood 4 (s.size : Int) (wsum s (nine s)) l
  · refine Ev.pos (by dsimp only; exact decide_eq_true hg) (Ev.ite (fun h => Ev.ret ?_) (fun h => Ev.ret ?_))
    · rw [if_neg (fun hg : StripeGood s l => hg.1 (toList_nil.1 h))]
    · rw [if_pos (show StripeGood s l from ⟨fun h0 => h (toList_nil.2 h0), hg⟩)]
  · refine Ev.neg (by dsimp only; rw [decide_eq_false hg]; decide) (Ev.ret ?_)
    rw [if_neg (fun h : StripeGood s l => hg h.2)]
theorem stripeR_len (s : ByteArray) (l : List S37) : (stripeR s l).2.2.1.length ≤ l.length := by
  unfold stripeR
  split
  · exact Nat.le_refl _
  · exact Nat.zero_le _
end Go.Proofs.Ytkoimmeghdbodaa.Pure
namespace Go.Proofs.Ytkoimmeghdbodaa.Print
open Go.RowKit Go.Proofs.YtkoimmeghdbodaaW.PrintWords Go.Proofs.YtkoimmeghdbodaaW.PrintLast Go.Proofs.YtkoimmeghdbodaaW.PrintMore
attribute [local go_sem] max2_int min2_int max_two min_two max_three min_three max_four min_four   -- for this text's walks alone
set_option linter.unusedVariables false
set_option linter.unusedSimpArgs false
end Go.Proofs.Ytkoimmeghdbodaa.Print
namespace Go.Proofs.Ytkoimmeghdbodaa.Print
open Go.RowKit Go.Proofs.YtkoimmeghdbodaaW.PrintWords Go.Proofs.YtkoimmeghdbodaaW.PrintLast Go.Proofs.YtkoimmeghdbodaaW.PrintMore
attribute [local go_sem] max2_int min2_int max_two min_two max_three min_three max_four min_four   -- for this text's walks alone
set_option linter.unusedVariables false
set_option linter.unusedSimpArgs false
end Go.Proofs.Ytkoimmeghdbodaa.Print
namespace Go.Proofs.Ytkoimmeghdbodaa.Pure
open Go.RowKit Go.Proofs.Ytkoimmeghdbodaa.Print Go.Proofs.YtkoimmeghdbodaaW.PrintWords
theorem places_l0 {b : List Int} (hb : Code b) {n c : Int} (hn : 3 ≤ n ∧ n ≤ 4) (hc : c ≤ 50) (x8 : Int) (d : Nat) : ∀ (i : Nat) (l : List S37) (p : Int), (i : Int) + d = c → l.length = i → 0 ≤ p → p + d ≤ 1000000 →
    ∃ (r : List S37) (q : Int), Ev (fun k => spec_l71Places.l0 k n c l x8 (i : Int) b p) (r, q) ∧ (r.length : Int) = c ∧ p ≤ q ∧ q ≤ p + d := by
  induction d with
  | zero =>
    intro i l p hi hl hp0 hp
    refine ⟨l, p, Ev.next ?_, by omega, by omega, by omega⟩
    simp only [spec_l71Places.l0]
    exact Ev.neg (by omega) (Ev.ret rfl)
  | succ d ih =>
    intro i l p hi hl hp0 hp
    have e : wrap64 ((i : Int) + 1) = ((i + 1 : Nat) : Int) := by rw [wrap_ok (by omega)]; omega
    obtain ⟨x, e1, _, _, _⟩ := pick_ev hb p 12 (by omega) (by omega)
    obtain ⟨r, q, e2, h1, h2, h3⟩ := ih (i + 1) (l ++ [(⟨Int.tmod (wrap64 (x8 + (i : Int))) n, x⟩ : S37)]) (p + 1) (by omega) (by simp [hl]) (by omega) (by omega)
    refine ⟨r, q, Ev.next ?_, h1, by omega, by omega⟩
    simp only [spec_l71Places.l0, e]
    clear e
    exact Ev.pos (by omega) (Ev.neg (by omega) (Ev.bind e1 (Ev.pos (by omega) e2)))
theorem places_ev {b : List Int} (hb : Code b) {n c p : Int} (hn : 3 ≤ n ∧ n ≤ 4) (hc : 0 ≤ c ∧ c ≤ 50) (hp : 0 ≤ p ∧ p ≤ 900000) :
    ∃ (r : List S37) (q : Int), Ev (fun k => spec_l71Places.f k b p n c) (r, q) ∧ (r.length : Int) = c ∧ p ≤ q ∧ q ≤ p + 60 := by
  obtain ⟨x, e1, _, _, _⟩ := pick_ev hb p n (by omega) (by omega)
  obtain ⟨c, rfl⟩ := Int.eq_ofNat_of_zero_le hc.1
  obtain ⟨r, q, e2, h1, h2, h3⟩ := places_l0 hb hn hc.2 x c 0 ([] : List S37) (p + 1) (by omega) rfl (by omega) (by omega)
  refine ⟨r, q, ?_, h1, by omega, by omega⟩
  unfold spec_l71Places.f
  exact Ev.bind e1 e2
theorem disks_ev {b : List Int} (hb : Code b) {p : Int} (hp : 0 ≤ p ∧ p ≤ 900000) : ∃ n : Int, Ev (fun k => spec_l71Disks.f k b p) (n, p + 1) ∧ 3 ≤ n ∧ n ≤ 4 := by
  obtain ⟨x, e1, h0, h1, _⟩ := pick_ev hb p 2 (by omega) (by omega)
  have h1 := h1 (by omega)
  have e : wrap64 (3 + x) = 3 + x := wrap_ok (by omega)
  refine ⟨3 + x, ?_, by omega, by omega⟩
  unfold spec_l71Disks.f
  exact Ev.bind e1 (Ev.ret (by rw [e]))
theorem lpaPtr_l0 (s m : Int) (l : List S37) (hl : l.length ≤ 1048576) (d : Nat) : ∀ i : Nat, i + d = l.length → Ev (fun k => laws_lpaPtr.l0 k (i : Int) s m l s m l) true := by
  induction d with
  | zero =>
    intro i hi
    refine Ev.next ?_
    simp only [laws_lpaPtr.l0]
    exact Ev.neg (by omega) (Ev.ret rfl)
  | succ d ih =>
    intro i hi
    have e : wrap64 ((i : Int) + 1) = ((i + 1 : Nat) : Int) := by rw [wrap_ok (by omega)]; omega
    have hih := ih (i + 1) (by omega)
    refine Ev.next ?_
    simp only [laws_lpaPtr.l0, e]
    clear e
    exact Ev.pos (by omega) (Ev.pos (by omega) (Ev.pos (by omega) (Ev.neg (by simp) hih)))
theorem lpaPtr_ev (s m : Int) (l : List S37) (hl : l.length ≤ 1048576) : Ev (fun k => laws_lpaPtr.f k s m l s m l) true := by
  unfold laws_lpaPtr.f
  refine Ev.pos rfl (Ev.pos rfl (Ev.next ?_))
  simp only [laws_lpaPtr.j0]
  exact Ev.neg (by simp) (lpaPtr_l0 s m l hl _ 0 (Nat.zero_add _))
end Go.Proofs.Ytkoimmeghdbodaa.Pure
namespace Go.Proofs.Ytkoimmeghdbodaa.Pure
open Go.RowKit Go.Proofs.Ytkoimmeghdbodaa.Print Go.Proofs.YtkoimmeghdbodaaW.PrintWords
theorem drawStripePtr_ev (l : List Int) (h : ∀ x ∈ l, (Lit.int .u8 x).wf = true) : ∃ (t : ByteArray) (r : List S37), Ev (fun k => spec_DrawStripePtr.f k l) (t, r) ∧ r.length ≤ 10 := by
  obtain ⟨b, hb, hc⟩ := open_ev l h
  obtain ⟨n, e1, hn⟩ := disks_ev hc (p := 0) (by omega)
  obtain ⟨t, q, e2, ht, h1, h2⟩ := text_ev hc (0 + 1) 9 (by omega) (by omega)
  obtain ⟨r, q2, e3, hr, h3, h4⟩ := places_ev hc (n := n) (c := ((t.size : Int) + 2) / 3 + 1) (p := q) hn (by omega) (by omega)
  obtain ⟨x, e4, _, _, _⟩ := pick_ev hc q2 16 (by omega) (by omega)
  have ec : spec_l2Cols.f (t.size : Int) = some (((t.size : Int) + 2) / 3) := by unfold spec_l2Cols.f; rw [cols_eq (by omega)]
  have ew : wrap64 (((t.size : Int) + 2) / 3 + 1) = ((t.size : Int) + 2) / 3 + 1 := wrap_ok (by omega)
  unfold spec_DrawStripePtr.f
  by_cases c0 : x = 0
  · refine ⟨t, r ++ [(⟨0, 0⟩ : S37)], Ev.take hb (Ev.bind e1 (Ev.bind e2 (Ev.take ec ?_))), by simp; omega⟩
    rw [ew]
    exact Ev.bind e3 (Ev.bind e4 (Ev.pos c0 (Ev.pos (by dsimp only; omega) (Ev.ret rfl))))
  · by_cases c1 : x = 1
    · refine ⟨t, r.set (0 : Int).toNat (⟨(rd_T37 r 0).f0, (-1)⟩ : S37), Ev.take hb (Ev.bind e1 (Ev.bind e2 (Ev.take ec ?_))), by simp; omega⟩
      rw [ew]
      exact Ev.bind e3 (Ev.bind e4 (Ev.neg c0 (Ev.pos c1 (Ev.pos (by dsimp only; omega) (Ev.ret rfl)))))
    · refine ⟨t, r, Ev.take hb (Ev.bind e1 (Ev.bind e2 (Ev.take ec ?_))), by omega⟩
      rw [ew]
      exact Ev.bind e3 (Ev.bind e4 (Ev.neg c0 (Ev.neg c1 (Ev.ret rfl))))
theorem lpaPlaces_l0 (l : List S37) (hl : l.length ≤ 1048576) (d : Nat) : ∀ i : Nat, i + d = l.length → Ev (fun k => laws_lpaPlaces.l0 k l l (i : Int)) true := by
  induction d with
  | zero =>
    intro i hi
    refine Ev.next ?_
    simp only [laws_lpaPlaces.l0]
    exact Ev.neg (by omega) (Ev.ret rfl)
  | succ d ih =>
    intro i hi
    have e : wrap64 ((i : Int) + 1) = ((i + 1 : Nat) : Int) := by rw [wrap_ok (by omega)]; omega
    have hih := ih (i + 1) (by omega)
    refine Ev.next ?_
    simp only [laws_lpaPlaces.l0, e]
    clear e
    exact Ev.pos (by omega) (Ev.pos (by omega) (Ev.pos (by omega) (Ev.neg (by simp) hih)))
theorem lpaPlaces_ev (l : List S37) (hl : l.length ≤ 1048576) : Ev (fun k => laws_lpaPlaces.f k l l) true := by
  unfold laws_lpaPlaces.f
  exact Ev.pos rfl (lpaPlaces_l0 l hl _ 0 (Nat.zero_add _))
open Classical in
theorem FnStripePtr : laws_FnStripePtr.Pure := by
  intro l _ _ hw
  apply Ev.rounds
  unfold laws_FnStripePtr.f
  refine Ev.ite (fun _ => Ev.ret rfl) (fun _ => ?_)
  obtain ⟨t, r, hd, hr⟩ := drawStripePtr_ev l hw
  refine Ev.bind hd (Ev.bind (specStripe_ev t r (by omega)) (Ev.bind (implStripe_ev t r (by omega)) (Ev.neg (by simp) ?_)))
  have hlen := stripeR_len t r
  dsimp only
  refine Ev.bind (lpaPtr_ev _ _ _ (by omega)) (Ev.pos rfl (Ev.next ?_))
  simp only [laws_FnStripePtr.j0]
  by_cases hg : StripeGood t r
  · have hR : stripeR t r = ((t.size : Int), wsum t (nine t), r, true) := by unfold stripeR; rw [if_pos hg]
    rw [hR]
    have hb : ptrB 4 (t.size : Int) (wsum t (nine t)) r = true := decide_eq_true ⟨by omega, hg.2⟩
    refine Ev.neg (by simp) (Ev.pos rfl (Ev.take (implSum_eq t) (Ev.pos rfl (Ev.bind (lpaPlaces_ev r (by omega)) (Ev.pos rfl (Ev.bind (implPtr_ev 4 _ _ r (by omega)) (Ev.ret hb)))))))
  · have hR : stripeR t r = (0, 0, [], false) := by unfold stripeR; rw [if_neg hg]
    rw [hR]
    exact Ev.pos rfl (Ev.pos rfl (Ev.bind (lpaPtr_ev 0 0 [] (by simp)) (Ev.ret rfl)))
end Go.Proofs.Ytkoimmeghdbodaa.Pure
namespace Go.Proofs.Ytkoimmeghdbodaa.fnStripePtr
open Go.ChangeShapes Go.WideShapes Go.ChangeAt Go.RowKit
open Go.ChangeMaps (open_string shut_string)
set_option linter.unusedVariables false
theorem own : ownKnob Try.prog.godebug = none := by kernel_rfl
theorem laidOut : laidOutB Try.prog = true := by kernel_rfl
def IsRow (k : IntKind) (w : World) (a : Option Addr) (len cap : Nat) (zs : List Int) : Prop :=
  (a = none ∧ len = 0 ∧ cap = 0 ∧ zs = []) ∨
  ∃ x, a = some x ∧ len ≤ cap ∧ cap ≤ maxLen ∧ zs.length = cap ∧ (∀ i, i < zs.length → w.cell? (x.add i) = some (.int k (zs.getD i 0))) ∧ ∀ n ∈ zs, (Lit.int k n).wf = true
set_option maxRecDepth 100000 in
theorem lifted (os : Os) (started : os.Started) (H : Type) (enc : TypeId × Value → H) :
    ReturnsInHanded {} Try.checked os 5 .any (Rows.fnStripePtrSpec.pre6 enc Try.prog Try.f5 Rows.fnStripePtrRow.domain false) (Rows.fnStripePtrSpec.post enc Try.prog Try.f5 false true false false) := by
  refine returnsInHanded_of_change_sized (C := Try.checked) own started (by kernel_rfl) Try.func5
    (ChangeSpec.witness6 (enc := enc) (C := Try.checked) false ⟨#[], #[.slice none 0 0], []⟩ 8 (by kernel_rfl) (by kernel_rfl) (by kernel_rfl) (by kernel_rfl)) ?_
  intro W base args ds gs before hval0 hW hcnd hsz0 _
  have hsz : (DataW.weightsEach Try.prog (Try.f5.params.toList ++ Rows.fnStripePtrSpec.plain.varTypes Try.prog) (ds ++ gs)).all (· ≤ reachBytes) = true := hsz0
  have hval : ∀ (j : Nat) t v, Try.f5.params[j]? = some t → args[j]? = some v → Value.okWide Try.prog W .any base t v := hval0
  have hW' := hW
  obtain ⟨p, q, hA0, hV, rfl, hfz, hnd⟩ := hW
  have hA : DataW.TrodAll enc Try.prog W 0 (fun _ => true) true Try.f5.params.toList args.toList ds p := hA0
  rw [Try.params5] at hA hval hsz
  obtain ⟨v0, vs0, d0, ds0, p0, q0, hargs, rfl, rfl, h0, r0⟩ := trodAll_cons hA
  obtain ⟨rfl, rfl, rfl⟩ := trodAll_nil r0
  obtain rfl : args = #[v0] := by cases args; simp_all
  obtain ⟨rfl, rfl⟩ := trodVars_none hV
  obtain ⟨a0, len0, cap0, rfl⟩ := okWide_slice Try.underlying33 (hval 0 33 v0 rfl rfl)
  have k0 := h0
  have lt0 : ∀ x ∈ p0, x.block < W.heap.size := by obtain ⟨m, hm⟩ := k0; exact DataW.trod_lt m _ _ _ hm
  obtain ⟨z0, w0⟩ : ∃ zs, IsRow .u8 W a0 len0 cap0 zs := by
    obtain ⟨fuel, hf⟩ := h0
    rcases open_ints Try.underlying33 Try.underlying5 (by kernel_rfl) hf with ⟨hcs, _⟩ | ⟨x, l, c, zs, hcs, _, hl, hm, hz, _, hcell, hwz⟩
    · simp [Value.cells] at hcs
      obtain ⟨rfl, rfl, rfl⟩ := hcs
      exact ⟨[], .inl ⟨rfl, rfl, rfl, rfl⟩⟩
    · simp [Value.cells] at hcs
      obtain ⟨rfl, rfl, rfl⟩ := hcs
      exact ⟨zs, .inr ⟨_, rfl, hl, hm, by simpa using hz, hcell, hwz⟩⟩
  have y0 : len0 * 1 ≤ 140737488351232 := Go.Proofs.YtkoimmeghdbodaaW.PrintWords.sized_ints hsz (j := 0) (t := 33) rfl rfl Try.underlying33 Try.underlying5 (by kernel_rfl) (by kernel_rfl) h0
  clear hA0 hval0 hsz0 hsz
  refine (Print.laws_FnStripePtr.walk Pure.FnStripePtr a0 len0 cap0 z0 W w0 y0).mono fun e W' ⟨he, bel⟩ => ?_
  subst he
  exact ⟨_, rfl, _, _, _, [], _, [], hW', trodAll_mk1 (shut_bool Try.underlying4 _), (trodAll_cons_mk (Below.trod laidOut (by kernel_rfl) (of_decide_eq_true (by kernel_rfl)) k0 bel lt0) trodAll_mk0), rfl, bel.frame _, fun h => by cases h⟩
theorem over : Rows.fnStripePtrRow.holds Try.pinned (OpenSpec.ofChange Rows.fnStripePtrSpec) :=
  OpenClaim.holds_of_wide 5 Try.f5 rfl rfl rfl rfl rfl rfl rfl ⟨rfl, rfl, rfl, rfl, rfl⟩ rfl rfl rfl rfl rfl (by kernel_rfl) Try.func5 (by kernel_rfl)
    (of_decide_eq_true (by kernel_rfl)) (by unfold Func.isWrapper; first | (rw [if_pos (by decide +kernel)]; kernel_rfl) | (rw [if_neg (by decide +kernel)]; exact ⟨rfl, rfl⟩))
    (fun os started H enc _ => lifted os started H enc)
theorem proved : Rows.FnStripePtrSaid := over
#print axioms proved
end Go.Proofs.Ytkoimmeghdbodaa.fnStripePtr
namespace Go.Proofs.Ytkoimmeghdbodaa
theorem fnStripePtr_holds : Rows.FnStripePtrSaid := fnStripePtr.proved
end Go.Proofs.Ytkoimmeghdbodaa
