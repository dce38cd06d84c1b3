/- Plain: when a pointer is ok, by the program and by its model: the same. Conditions: the list fits (2^40 places); a pool of three or four disks. -/
import Derived.Test.YtkoimmeghdbodaaEv
import Derived.Test.YtkoimmeghdbodaaDrawA
import Derived.Test.YtkoimmeghdbodaaPrint3
import Derived.Test.YtkoimmeghdbodaaPrint6
namespace Go.Proofs.Ytkoimmeghdbodaa.Pure
open Go.RowKit Go.Proofs.Ytkoimmeghdbodaa.Print Go.Proofs.YtkoimmeghdbodaaW.PrintWords

theorem l6In_eq (n lo hi : Int) : spec_l6In.f n lo hi = some (decide (lo ≤ n ∧ n ≤ hi)) := by
  unfold spec_l6In.f
  by_cases h : n ≥ lo
  · rw [if_pos h]
    congr 1
    by_cases h2 : n ≤ hi
    · rw [decide_eq_true h2, decide_eq_true ⟨h, h2⟩]
    · rw [decide_eq_false h2, decide_eq_false (fun h3 => h2 h3.2)]
  · rw [if_neg h, decide_eq_false (fun h3 => h h3.1)]

def plAt (l : List S37) (i : Nat) : S37 := l.getD i z37
theorem rd37_nat (l : List S37) (i : Nat) : rd_T37 l (i : Int) = plAt l i := by simp [rd_T37, plAt]
def PlaceIn (n : Int) (p : S37) : Prop := (0 ≤ p.f0 ∧ p.f0 < n) ∧ 0 ≤ p.f1 ∧ p.f1 < 12
def GoodAt (n : Int) (l : List S37) (i : Nat) : Prop := PlaceIn n (plAt l i) ∧ ∀ k, k < i → (plAt l k).f0 ≠ (plAt l i).f0
def AllGood (n : Int) (l : List S37) : Prop := ∀ i, i < l.length → GoodAt n l i

theorem spec_l1_good {n s m : Int} {l : List S37} (hl : l.length ≤ 1099511627776) {i : Nat} (hi : i < l.length) {r : Bool} (k : Ev (fun k => spec_l2Ptr.l0 k n ((i + 1 : Nat) : Int) s m l) r) (d : Nat) :
    ∀ q : Nat, q + d = i → (∀ j, q ≤ j → j < i → (plAt l j).f0 ≠ (plAt l i).f0) → Ev (fun k => spec_l2Ptr.l1 k n (i : Int) (q : Int) s m l) r := by
  have e : wrap64 ((i : Int) + 1) = ((i + 1 : Nat) : Int) := by rw [wrap_ok (by omega)]; omega
  induction d with
  | zero =>
    intro q hq _
    refine Ev.next ?_
    simp only [spec_l2Ptr.l1, e]
    clear e
    exact Ev.neg (by omega) k
  | succ d ih =>
    intro q hq h
    have e2 : wrap64 ((q : Int) + 1) = ((q + 1 : Nat) : Int) := by rw [wrap_ok (by omega)]; omega
    have hih := ih (q + 1) (by omega) (fun j h1 h2 => h j (by omega) h2)
    refine Ev.next ?_
    simp only [spec_l2Ptr.l1, e2, rd37_nat]
    clear e e2
    exact Ev.pos (by omega) (Ev.pos (by omega) (Ev.pos (by omega) (Ev.pos (by omega) (Ev.pos (by omega) (Ev.neg (h q (by omega) (by omega)) hih)))))
theorem spec_l1_bad {n s m : Int} {l : List S37} (hl : l.length ≤ 1099511627776) {i : Nat} (hi : i < l.length) (d : Nat) :
    ∀ q : Nat, q + d = i → (∃ j, q ≤ j ∧ j < i ∧ (plAt l j).f0 = (plAt l i).f0) → Ev (fun k => spec_l2Ptr.l1 k n (i : Int) (q : Int) s m l) false := by
  induction d with
  | zero =>
    rintro q hq ⟨j, h1, h2, _⟩
    omega
  | succ d ih =>
    rintro q hq ⟨j, h1, h2, h3⟩
    have e2 : wrap64 ((q : Int) + 1) = ((q + 1 : Nat) : Int) := by rw [wrap_ok (by omega)]; omega
    refine Ev.next ?_
    simp only [spec_l2Ptr.l1, e2, rd37_nat]
    clear e2
    refine Ev.pos (by omega) (Ev.pos (by omega) (Ev.pos (by omega) (Ev.pos (by omega) (Ev.pos (by omega) (Ev.ite (fun _ => Ev.ret rfl) (fun hne => ih (q + 1) (by omega) ⟨j, ?_, h2, h3⟩))))))
    by_cases e : j = q
    · subst e
      exact absurd h3 hne
    · omega

open Classical in
theorem spec_l0_ev {n s m : Int} (hn : 3 ≤ n ∧ n ≤ 4) {l : List S37} (hl : l.length ≤ 1099511627776) (d : Nat) : ∀ i : Nat, i + d = l.length →
    Ev (fun k => spec_l2Ptr.l0 k n (i : Int) s m l) (decide (∀ j, i ≤ j → j < l.length → GoodAt n l j)) := by
  induction d with
  | zero =>
    intro i hi
    refine Ev.next ?_
    simp only [spec_l2Ptr.l0]
    refine Ev.neg (by omega) (Ev.ret ?_)
    rw [decide_eq_true]
    intro j h1 h2
    omega
  | succ d ih =>
    intro i hi
    have hih := ih (i + 1) (by omega)
    have e : wrap64 (n - 1) = n - 1 := wrap_ok (by omega)
    refine Ev.next ?_
    simp only [spec_l2Ptr.l0, e, rd37_nat]
    clear e
    refine Ev.pos (by omega) (Ev.pos (by omega) (Ev.take (l6In_eq _ _ _) ?_))
    by_cases h1 : 0 ≤ (plAt l i).f0 ∧ (plAt l i).f0 ≤ n - 1
    · refine Ev.pos (by simpa using h1) (Ev.take (l6In_eq _ _ _) (Ev.next ?_))
      simp only [spec_l2Ptr.j2]
      by_cases h2 : 0 ≤ (plAt l i).f1 ∧ (plAt l i).f1 ≤ 11
      · refine Ev.neg (by simpa using h2) ?_
        by_cases h3 : ∀ j, j < i → (plAt l j).f0 ≠ (plAt l i).f0
        · have hg : GoodAt n l i := ⟨⟨⟨h1.1, by omega⟩, h2.1, by omega⟩, h3⟩
          have : (∀ j, i ≤ j → j < l.length → GoodAt n l j) ↔ (∀ j, i + 1 ≤ j → j < l.length → GoodAt n l j) :=
            ⟨fun h j h1 h2 => h j (by omega) h2, fun h j h1 h2 => by
              by_cases e : j = i
              · rw [e]; exact hg
              · exact h j (by omega) h2⟩
          simp only [this]
          exact spec_l1_good hl (by omega) hih i 0 (Nat.zero_add _) (fun j _ h => h3 j h)
        · have hx : ∃ j, 0 ≤ j ∧ j < i ∧ (plAt l j).f0 = (plAt l i).f0 := by
            apply Classical.byContradiction
            intro hc
            exact h3 fun j hj he => hc ⟨j, Nat.zero_le _, hj, he⟩
          rw [decide_eq_false (fun h => h3 (h i (Nat.le_refl _) (by omega)).2)]
          exact spec_l1_bad hl (by omega) i 0 (Nat.zero_add _) hx
      · refine Ev.pos (by rw [decide_eq_false h2]; rfl) (Ev.ret ?_)
        rw [decide_eq_false]
        intro h
        have := (h i (Nat.le_refl _) (by omega)).1.2
        exact h2 ⟨this.1, by omega⟩
    · refine Ev.neg (by simpa using h1) (Ev.next ?_)
      simp only [spec_l2Ptr.j2]
      refine Ev.pos trivial (Ev.ret ?_)
      rw [decide_eq_false]
      intro h
      have := (h i (Nat.le_refl _) (by omega)).1.1
      exact h1 ⟨this.1, by omega⟩

theorem placeOk_eq (p : S37) (n : Int) [Decidable (PlaceIn n p)] : impl_Place_ok.f p.f0 p.f1 n = some (decide (PlaceIn n p)) := by
  unfold impl_Place_ok.f
  by_cases h1 : p.f0 ≥ 0
  · by_cases h2 : p.f0 < n
    · by_cases h3 : p.f1 ≥ 0
      · rw [if_pos h1, if_pos h2, if_pos h3]
        congr 1
        by_cases h4 : p.f1 < 12
        · rw [decide_eq_true h4, decide_eq_true (show PlaceIn n p from ⟨⟨h1, h2⟩, h3, h4⟩)]
        · rw [decide_eq_false h4, decide_eq_false (fun h : PlaceIn n p => h4 h.2.2)]
      · rw [if_pos h1, if_pos h2, if_neg h3, decide_eq_false (fun h : PlaceIn n p => h3 h.2.1)]
    · rw [if_pos h1, if_neg h2, decide_eq_false (fun h : PlaceIn n p => h2 h.1.2)]
  · rw [if_neg h1, decide_eq_false (fun h : PlaceIn n p => h1 h.1.1)]
theorem any_take (l : List S37) (i : Nat) (hi : i ≤ l.length) (x : Int) : ((l.take i).any fun y => y.f0 == x) = true ↔ ∃ j, j < i ∧ (plAt l j).f0 = x := by
  rw [List.any_eq_true]
  constructor
  · rintro ⟨y, hy, he⟩
    obtain ⟨j, hj, rfl⟩ := List.getElem_of_mem hy
    simp only [List.length_take] at hj
    refine ⟨j, by omega, ?_⟩
    have hjl : j < l.length := by omega
    simpa [plAt, List.getD, hjl] using he
  · rintro ⟨j, hj, he⟩
    have hjl : j < l.length := by omega
    refine ⟨l[j], ?_, by simpa [plAt, List.getD, hjl] using he⟩
    rw [List.mem_take_iff_getElem]
    exact ⟨j, by omega, rfl⟩

open Classical in
theorem impl_l0_ev {n s m : Int} {l : List S37} (hl : l.length ≤ 1099511627776) (d : Nat) : ∀ i : Nat, i + d = l.length →
    Ev (fun k => impl_PtrOk.l0 k n l (l.length : Int) (i : Int) s m l) (decide (∀ j, i ≤ j → j < l.length → GoodAt n l j)) := by
  induction d with
  | zero =>
    intro i hi
    refine Ev.next ?_
    simp only [impl_PtrOk.l0]
    refine Ev.neg (by omega) (Ev.ret ?_)
    rw [decide_eq_true]
    intro j h1 h2
    omega
  | succ d ih =>
    intro i hi
    have hih := ih (i + 1) (by omega)
    have e : wrap64 ((i : Int) + 1) = ((i + 1 : Nat) : Int) := by rw [wrap_ok (by omega)]; omega
    refine Ev.next ?_
    simp only [impl_PtrOk.l0, e, rd37_nat, Int.toNat_natCast]
    clear e
    refine Ev.pos (by omega) (Ev.pos (by omega) (Ev.pos (by omega) (Ev.take (placeOk_eq _ _) ?_)))
    by_cases h1 : PlaceIn n (plAt l i)
    · refine Ev.pos (by simpa using h1) (Ev.pos (by omega) (Ev.take rfl ?_))
      by_cases h2 : ∃ j, j < i ∧ (plAt l j).f0 = (plAt l i).f0
      · refine Ev.pos ((any_take l i (by omega) _).2 h2) (Ev.ret ?_)
        rw [decide_eq_false]
        intro h
        obtain ⟨j, hj, he⟩ := h2
        exact (h i (Nat.le_refl _) (by omega)).2 j hj he
      · refine Ev.neg (fun h => h2 ((any_take l i (by omega) _).1 h)) ?_
        have hg : GoodAt n l i := ⟨h1, fun j hj he => h2 ⟨j, hj, he⟩⟩
        have : (∀ j, i ≤ j → j < l.length → GoodAt n l j) ↔ (∀ j, i + 1 ≤ j → j < l.length → GoodAt n l j) :=
          ⟨fun h j h1 h2 => h j (by omega) h2, fun h j h1 h2 => by
            by_cases e : j = i
            · rw [e]; exact hg
            · exact h j (by omega) h2⟩
        simp only [this]
        exact hih
    · refine Ev.neg (by simpa using h1) (Ev.ret ?_)
      rw [decide_eq_false]
      intro h
      exact h1 (h i (Nat.le_refl _) (by omega)).1

def PtrGood (n s m : Int) (l : List S37) : Prop := (s = 0 ∧ m = 0 ∧ l.length = 0) ∨ ((1 ≤ s ∧ s ≤ 3 * (n - 1)) ∧ (0 ≤ m ∧ m ≤ 1000000000) ∧ (l.length : Int) = (s + 2) / 3 + 1 ∧ AllGood n l)
theorem cols_eq {s : Int} (h : 0 ≤ s ∧ s ≤ 1099511627776) : wrap64 (Int.tdiv (wrap64 ((wrap64 (s + 3)) - 1)) 3) = (s + 2) / 3 := by
  rw [wrap_ok (x := s + 3) (by omega), wrap_ok (x := s + 3 - 1) (by omega), Int.tdiv_eq_ediv_of_nonneg (by omega), wrap_ok (by omega)]
  omega
theorem most_eq {n : Int} (hn : 3 ≤ n ∧ n ≤ 4) : wrap64 (3 * (mn 3 (wrap64 (n - 1)))) = 3 * (n - 1) := by
  rw [wrap_ok (x := n - 1) (by omega)]
  have : mn 3 (n - 1) = n - 1 := by unfold mn; split <;> omega
  rw [this, wrap_ok (by omega)]
open Classical in
noncomputable def ptrB (n s m : Int) (l : List S37) : Bool := decide ((3 ≤ n ∧ n ≤ 4) ∧ PtrGood n s m l)
open Classical in
theorem spec_l2Ptr_ev {n : Int} (hn : 3 ≤ n ∧ n ≤ 4) (s m : Int) (l : List S37) (hl : l.length ≤ 1099511627776) : Ev (fun k => spec_l2Ptr.f k n s m l) (decide (PtrGood n s m l)) := by
  unfold spec_l2Ptr.f
  have bad : ∀ h : ¬ PtrGood n s m l, Ev (fun k => spec_l2Ptr.j0 k n true s m l) (decide (PtrGood n s m l)) := by
    intro h
    refine Ev.next ?_
    simp only [spec_l2Ptr.j0]
    exact Ev.pos trivial (Ev.ret (decide_eq_false h).symm)
  by_cases h0 : s = 0
  · refine Ev.pos h0 ?_
    by_cases hm : m = 0
    · refine Ev.pos hm (Ev.ret ?_)
      by_cases hz : l.length = 0
      · rw [decide_eq_true (show PtrGood n s m l from Or.inl ⟨h0, hm, hz⟩)]
        simp [hz]
      · rw [decide_eq_false]
        · simp only [beq_eq_false_iff_ne]
          omega
        · rintro (h | h)
          · exact hz h.2.2
          · omega
    · refine Ev.neg hm (Ev.ret ?_)
      rw [decide_eq_false]
      rintro (h | h)
      · exact hm h.2.1
      · omega
  · refine Ev.neg h0 ?_
    rw [most_eq hn]
    refine Ev.take (l6In_eq _ _ _) ?_
    by_cases h1 : 1 ≤ s ∧ s ≤ 3 * (n - 1)
    · refine Ev.pos (by simpa using h1) (Ev.take (l6In_eq _ _ _) ?_)
      by_cases h2 : 0 ≤ m ∧ m ≤ 1000000000
      · refine Ev.pos (by simpa using h2) (Ev.take rfl ?_)
        rw [cols_eq (by omega), wrap_ok (x := (s + 2) / 3 + 1) (by omega)]
        by_cases h3 : (l.length : Int) = (s + 2) / 3 + 1
        · refine Ev.next ?_
          simp only [spec_l2Ptr.j0]
          refine Ev.neg (by simp [h3]) ?_
          have := spec_l0_ev (s := s) (m := m) hn hl l.length 0 (Nat.zero_add _)
          have e : (∀ j, 0 ≤ j → j < l.length → GoodAt n l j) ↔ PtrGood n s m l :=
            ⟨fun h => Or.inr ⟨h1, h2, h3, fun i hi => h i (Nat.zero_le _) hi⟩, fun h j _ hj => by
              rcases h with h | h
              · omega
              · exact h.2.2.2 j hj⟩
          simp only [e] at this
          exact this
        · have : ((l.length : Int) != (s + 2) / 3 + 1) = true := by simpa using h3
          rw [this]
          exact bad (by
            rintro (h | h)
            · exact h0 h.1
            · exact h3 h.2.2.1)
      · exact Ev.neg (by simpa using h2) (bad (by
          rintro (h | h)
          · exact h0 h.1
          · exact h2 h.2.1))
    · exact Ev.neg (by simpa using h1) (bad (by
        rintro (h | h)
        · exact h0 h.1
        · exact h1 h.1))
open Classical in
theorem specPtr_ev (n s m : Int) (l : List S37) (hl : l.length ≤ 1099511627776) : Ev (fun k => spec_PtrOk.f k n s m l) (ptrB n s m l) := by
  unfold spec_PtrOk.f spec_l2Disks.f ptrB
  refine Ev.take (a := decide (3 ≤ n ∧ n ≤ 4)) (by rw [l6In_eq]; rfl) ?_
  by_cases hn : 3 ≤ n ∧ n ≤ 4
  · refine Ev.pos (by simpa using hn) (Ev.bind (spec_l2Ptr_ev hn s m l hl) (Ev.ret ?_))
    simp [hn]
  · refine Ev.neg (by simpa using hn) (Ev.ret ?_)
    rw [decide_eq_false (fun h => hn h.1)]
open Classical in
theorem implPtr_ev (n s m : Int) (l : List S37) (hl : l.length ≤ 1099511627776) : Ev (fun k => impl_PtrOk.f k n s m l) (ptrB n s m l) := by
  unfold impl_PtrOk.f ptrB
  refine Ev.take (a := decide (3 ≤ n ∧ n ≤ 4)) (by
    unfold impl_isPool.f
    by_cases h : n ≥ 3
    · rw [if_pos h]
      congr 1
      by_cases h2 : n ≤ 4
      · rw [decide_eq_true h2, decide_eq_true ⟨h, h2⟩]
      · rw [decide_eq_false h2, decide_eq_false (fun h3 => h2 h3.2)]
    · rw [if_neg h, decide_eq_false (fun h3 => h h3.1)]) ?_
  by_cases hn : 3 ≤ n ∧ n ≤ 4
  · refine Ev.pos (by simpa using hn) ?_
    have bad : ∀ h : ¬ PtrGood n s m l, Ev (fun k => impl_PtrOk.j0 k n true s m l) (decide ((3 ≤ n ∧ n ≤ 4) ∧ PtrGood n s m l)) := by
      intro h
      refine Ev.next ?_
      simp only [impl_PtrOk.j0]
      exact Ev.pos trivial (Ev.ret (decide_eq_false (fun hh => h hh.2)).symm)
    have hz : impl_Ptr_none.f s m l = some (decide (s = 0 ∧ m = 0 ∧ l.length = 0)) := by
      unfold impl_Ptr_none.f
      by_cases h1 : s = 0
      · by_cases h2 : m = 0
        · rw [if_pos h1, if_pos h2]
          congr 1
          by_cases h3 : l.length = 0
          · rw [decide_eq_true ⟨h1, h2, h3⟩]
            simp [h3]
          · rw [decide_eq_false (fun h => h3 h.2.2)]
            simp only [beq_eq_false_iff_ne]
            omega
        · rw [if_pos h1, if_neg h2, decide_eq_false (fun h => h2 h.2.1)]
      · rw [if_neg h1, decide_eq_false (fun h => h1 h.1)]
    refine Ev.take hz ?_
    by_cases h0 : s = 0 ∧ m = 0 ∧ l.length = 0
    · exact Ev.pos (by simpa using h0) (Ev.ret (decide_eq_true ⟨hn, Or.inl h0⟩).symm)
    · refine Ev.neg (by simpa using h0) ?_
      refine Ev.ite (fun h1 => bad (by
        rintro (h | h)
        · exact h0 h
        · omega)) (fun h1 => ?_)
      refine Ev.take (a := 3 * (n - 1)) (by unfold impl_textMost.f; rw [most_eq hn]) ?_
      refine Ev.ite (fun h2 => bad (by
        rintro (h | h)
        · exact h0 h
        · omega)) (fun h2 => ?_)
      refine Ev.ite (fun h3 => bad (by
        rintro (h | h)
        · exact h0 h
        · omega)) (fun h3 => ?_)
      refine Ev.ite (fun h4 => bad (by
        rintro (h | h)
        · exact h0 h
        · omega)) (fun h4 => ?_)
      refine Ev.take (a := (s + 2) / 3) (by unfold impl_columns.f; rw [cols_eq (by omega)]) ?_
      rw [wrap_ok (x := (s + 2) / 3 + 1) (by omega)]
      by_cases h5 : (l.length : Int) = (s + 2) / 3 + 1
      · refine Ev.next ?_
        simp only [impl_PtrOk.j0]
        refine Ev.neg (by simp [h5]) ?_
        have := impl_l0_ev (n := n) (s := s) (m := m) hl l.length 0 (Nat.zero_add _)
        have e : (∀ j, 0 ≤ j → j < l.length → GoodAt n l j) ↔ ((3 ≤ n ∧ n ≤ 4) ∧ PtrGood n s m l) :=
          ⟨fun h => ⟨hn, Or.inr ⟨by omega, by omega, h5, fun i hi => h i (Nat.zero_le _) hi⟩⟩, fun h j _ hj => by
            rcases h.2 with h | h
            · omega
            · exact h.2.2.2 j hj⟩
        simp only [e] at this
        exact this
      · have : ((l.length : Int) != (s + 2) / 3 + 1) = true := by simpa using h5
        rw [this]
        exact bad (by
          rintro (h | h)
          · exact h0 h
          · exact h5 h.2.2.1)
  · refine Ev.neg (by simpa using hn) (Ev.ret ?_)
    rw [decide_eq_false (fun h => hn h.1)]
end Go.Proofs.Ytkoimmeghdbodaa.Pure
