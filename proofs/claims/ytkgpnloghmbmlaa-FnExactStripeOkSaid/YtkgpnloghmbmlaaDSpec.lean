/- Plain: when a disk is ok, by the model: the same as by the program. Conditions: the lists fit (2^20 elements). -/
import Derived.Test.YtkgpnloghmbmlaaDLists
import Derived.Test.YtkgpnloghmbmlaaExDiskOk
import Derived.Test.YtkgpnloghmbmlaaPrint7
namespace Go.Proofs.Ytkgpnloghmbmlaa.Pure
open Go.RowKit Go.Proofs.Ytkgpnloghmbmlaa.Print Go.Proofs.YtkgpnloghmbmlaaW.PrintWords
set_option linter.unusedSimpArgs false

theorem l6In_eq (n lo hi : Int) : spec_l6In.f n lo hi = some (decide (lo ≤ n ∧ n ≤ hi)) := by
  unfold spec_l6In.f
  by_cases h : n ≥ lo
  · rw [if_pos h]
    congr 1
    by_cases h2 : n ≤ hi
    · rw [decide_eq_true h2, decide_eq_true ⟨h, h2⟩]
    · rw [decide_eq_false h2, decide_eq_false (fun h3 => h2 h3.2)]
  · rw [if_neg h, decide_eq_false (fun h3 => h h3.1)]
theorem l3Put_eq (x : S54) : spec_l3Put.f x.f0 x.f1 x.f2 = some (putB x) := by
  unfold spec_l3Put.f putB
  by_cases h0 : x.f0 = true
  · rw [if_pos h0, if_pos h0, l6In_eq]
    simp only [Option.bind_some]
    by_cases h1 : 0 ≤ x.f1 ∧ x.f1 ≤ 1
    · rw [if_pos (decide_eq_true h1)]
      congr 1
      rw [Bool.eq_iff_iff, decide_eq_true_iff, decide_eq_true_iff]
      omega
    · rw [decide_eq_false h1, if_neg (by decide), decide_eq_false (by omega)]
  · rw [if_neg h0, if_neg h0, l6In_eq]
    simp only [Option.bind_some]
    by_cases h1 : 0 ≤ x.f1 ∧ x.f1 ≤ 11
    · rw [if_pos (decide_eq_true h1)]
      congr 1
      rw [Bool.eq_iff_iff, decide_eq_true_iff, beq_iff_eq]
      omega
    · rw [decide_eq_false h1, if_neg (by decide), decide_eq_false (by omega)]
theorem from_step {P : Nat → Prop} {n i : Nat} (_ : i < n) (h : P i) : (∀ j, i ≤ j → j < n → P j) ↔ (∀ j, i + 1 ≤ j → j < n → P j) :=
  ⟨fun k j h1 h2 => k j (by omega) h2, fun k j h1 h2 => by
    by_cases e : j = i
    · rw [e]; exact h
    · exact k j (by omega) h2⟩

open Classical in
theorem dl2_ev {st : Int} {l1 l2 : List ByteArray} {l3 : List Bool} {l4 : List S54} (hl : l4.length ≤ 1048576) (d : Nat) : ∀ i : Nat, i + d = l4.length →
    Ev (fun k => spec_DiskOk.l2 k (i : Int) st l1 l2 l3 l4) (decide ((∀ j, i ≤ j → j < l4.length → putB (l4.getD j z54) = true) ∧ (st = 1 → l4.length = 0))) := by
  induction d with
  | zero =>
    intro i hi
    refine Ev.next ?_
    simp only [spec_DiskOk.l2]
    refine Ev.neg (by omega) ?_
    by_cases h : st = 1
    · refine Ev.pos h (Ev.ret ?_)
      rw [Bool.eq_iff_iff, beq_iff_eq, decide_eq_true_iff]
      exact ⟨fun h1 => ⟨fun j _ _ => by omega, fun _ => by omega⟩, fun h1 => by have := h1.2 h; omega⟩
    · refine Ev.neg h (Ev.ret ?_)
      rw [decide_eq_true]
      exact ⟨fun j _ _ => by omega, fun h1 => absurd h1 h⟩
  | succ d ih =>
    intro i hi
    have hih := ih (i + 1) (by omega)
    have e : wrap64 ((i : Int) + 1) = ((i + 1 : Nat) : Int) := by rw [wrap_ok (by omega)]; omega
    refine Ev.next ?_
    simp only [spec_DiskOk.l2, e]
    clear e
    have hp := l3Put_eq (l4.getD i z54)
    rw [show l4.getD i z54 = rd_T54 l4 (i : Int) by simp [rd_T54]] at hp
    refine Ev.pos (by omega) (Ev.pos (by omega) (Ev.take hp ?_))
    by_cases h : putB (rd_T54 l4 (i : Int)) = true
    · refine Ev.pos h ?_
      rw [show rd_T54 l4 (i : Int) = l4.getD i z54 by simp [rd_T54]] at h
      simp only [from_step (P := fun j => putB (l4.getD j z54) = true) (show i < l4.length by omega) h]
      exact hih
    · refine Ev.neg h (Ev.ret ?_)
      rw [decide_eq_false]
      intro h1
      have := h1.1 i (Nat.le_refl _) (by omega)
      rw [show rd_T54 l4 (i : Int) = l4.getD i z54 by simp [rd_T54]] at h
      exact h this
def Tail2 (st : Int) (l4 : List S54) : Prop := (∀ j, 0 ≤ j → j < l4.length → putB (l4.getD j z54) = true) ∧ (st = 1 → l4.length = 0)
open Classical in
theorem dl1_ev {st : Int} {l1 l2 : List ByteArray} {l3 : List Bool} {l4 : List S54} (hl : l4.length ≤ 1048576) (h2 : l2.length ≤ 1048576) (d : Nat) : ∀ i : Nat, i + d = l2.length →
    Ev (fun k => spec_DiskOk.l1 k (i : Int) st l1 l2 l3 l4) (decide ((∀ j, i ≤ j → j < l2.length → (l2.getD j ByteArray.empty).size ≤ 700 ∧ (st = 1 → (l2.getD j ByteArray.empty).size = 0)) ∧ Tail2 st l4)) := by
  induction d with
  | zero =>
    intro i hi
    have hk := dl2_ev (st := st) (l1 := l1) (l2 := l2) (l3 := l3) hl l4.length 0 (Nat.zero_add _)
    refine Ev.next ?_
    simp only [spec_DiskOk.l1]
    refine Ev.neg (by omega) ?_
    rw [show decide ((∀ j, i ≤ j → j < l2.length → (l2.getD j ByteArray.empty).size ≤ 700 ∧ (st = 1 → (l2.getD j ByteArray.empty).size = 0)) ∧ Tail2 st l4) = decide ((∀ j, 0 ≤ j → j < l4.length → putB (l4.getD j z54) = true) ∧ (st = 1 → l4.length = 0)) from by
      rw [Bool.eq_iff_iff, decide_eq_true_iff, decide_eq_true_iff]
      exact ⟨fun h => h.2, fun h => ⟨fun j _ _ => by omega, h⟩⟩]
    exact hk
  | succ d ih =>
    intro i hi
    have hih := ih (i + 1) (by omega)
    have e : wrap64 ((i : Int) + 1) = ((i + 1 : Nat) : Int) := by rw [wrap_ok (by omega)]; omega
    refine Ev.next ?_
    simp only [spec_DiskOk.l1, e, rdOf_n]
    clear e
    refine Ev.pos (by omega) (Ev.pos (by omega) ?_)
    have bad : ∀ h : ¬ ((l2.getD i ByteArray.empty).size ≤ 700 ∧ (st = 1 → (l2.getD i ByteArray.empty).size = 0)), false = decide ((∀ j, i ≤ j → j < l2.length → (l2.getD j ByteArray.empty).size ≤ 700 ∧ (st = 1 → (l2.getD j ByteArray.empty).size = 0)) ∧ Tail2 st l4) := fun h => by
      rw [decide_eq_false]
      exact fun h1 => h (h1.1 i (Nat.le_refl _) (by omega))
    have good : ∀ h : ((l2.getD i ByteArray.empty).size ≤ 700 ∧ (st = 1 → (l2.getD i ByteArray.empty).size = 0)), Ev (fun k => spec_DiskOk.l1 k ((i + 1 : Nat) : Int) st l1 l2 l3 l4) (decide ((∀ j, i ≤ j → j < l2.length → (l2.getD j ByteArray.empty).size ≤ 700 ∧ (st = 1 → (l2.getD j ByteArray.empty).size = 0)) ∧ Tail2 st l4)) := fun h => by
      simp only [from_step (P := fun j => (l2.getD j ByteArray.empty).size ≤ 700 ∧ (st = 1 → (l2.getD j ByteArray.empty).size = 0)) (show i < l2.length by omega) h]
      exact hih
    by_cases c1 : ((l2.getD i ByteArray.empty).size : Int) > 700
    · exact Ev.pos c1 (Ev.ret (bad (fun h => by omega)))
    · refine Ev.neg c1 ?_
      by_cases c2 : st = 1
      · refine Ev.pos c2 ?_
        by_cases c3 : ((l2.getD i ByteArray.empty).size : Int) > 0
        · exact Ev.pos c3 (Ev.ret (bad (fun h => by have := h.2 c2; omega)))
        · exact Ev.neg c3 (good ⟨by omega, fun _ => by omega⟩)
      · exact Ev.neg c2 (good ⟨by omega, fun h => absurd h c2⟩)
def Tail1 (st : Int) (l2 : List ByteArray) (l4 : List S54) : Prop := (∀ j, 0 ≤ j → j < l2.length → (l2.getD j ByteArray.empty).size ≤ 700 ∧ (st = 1 → (l2.getD j ByteArray.empty).size = 0)) ∧ Tail2 st l4
open Classical in
theorem dl0_ev {st : Int} {l1 l2 : List ByteArray} {l3 : List Bool} {l4 : List S54} (hl : l4.length ≤ 1048576) (h2 : l2.length ≤ 1048576) (h1 : l1.length ≤ 1048576) (h3 : l3.length = l1.length) (d : Nat) : ∀ i : Nat, i + d = l1.length →
    Ev (fun k => spec_DiskOk.l0 k (i : Int) st l1 l2 l3 l4) (decide ((∀ j, i ≤ j → j < l1.length → badSlot (l1.getD j ByteArray.empty) (l3.getD j false) = false ∧ (st = 1 → (l1.getD j ByteArray.empty).size = 0)) ∧ Tail1 st l2 l4)) := by
  induction d with
  | zero =>
    intro i hi
    have hk := dl1_ev (st := st) (l1 := l1) (l2 := l2) (l3 := l3) hl h2 l2.length 0 (Nat.zero_add _)
    refine Ev.next ?_
    simp only [spec_DiskOk.l0]
    refine Ev.neg (by omega) ?_
    rw [show decide ((∀ j, i ≤ j → j < l1.length → badSlot (l1.getD j ByteArray.empty) (l3.getD j false) = false ∧ (st = 1 → (l1.getD j ByteArray.empty).size = 0)) ∧ Tail1 st l2 l4) = decide ((∀ j, 0 ≤ j → j < l2.length → (l2.getD j ByteArray.empty).size ≤ 700 ∧ (st = 1 → (l2.getD j ByteArray.empty).size = 0)) ∧ Tail2 st l4) from by
      rw [Bool.eq_iff_iff, decide_eq_true_iff, decide_eq_true_iff]
      exact ⟨fun h => h.2, fun h => ⟨fun j _ _ => by omega, h⟩⟩]
    exact hk
  | succ d ih =>
    intro i hi
    have hih := ih (i + 1) (by omega)
    have e : wrap64 ((i : Int) + 1) = ((i + 1 : Nat) : Int) := by rw [wrap_ok (by omega)]; omega
    refine Ev.next ?_
    simp only [spec_DiskOk.l0, e, rdOf_n]
    clear e
    have bad : ∀ h : ¬ (badSlot (l1.getD i ByteArray.empty) (l3.getD i false) = false ∧ (st = 1 → (l1.getD i ByteArray.empty).size = 0)), false = decide ((∀ j, i ≤ j → j < l1.length → badSlot (l1.getD j ByteArray.empty) (l3.getD j false) = false ∧ (st = 1 → (l1.getD j ByteArray.empty).size = 0)) ∧ Tail1 st l2 l4) := fun h => by
      rw [decide_eq_false]
      exact fun h1 => h (h1.1 i (Nat.le_refl _) (by omega))
    have good : ∀ h : (badSlot (l1.getD i ByteArray.empty) (l3.getD i false) = false ∧ (st = 1 → (l1.getD i ByteArray.empty).size = 0)), Ev (fun k => spec_DiskOk.l0 k ((i + 1 : Nat) : Int) st l1 l2 l3 l4) (decide ((∀ j, i ≤ j → j < l1.length → badSlot (l1.getD j ByteArray.empty) (l3.getD j false) = false ∧ (st = 1 → (l1.getD j ByteArray.empty).size = 0)) ∧ Tail1 st l2 l4)) := fun h => by
      simp only [from_step (P := fun j => badSlot (l1.getD j ByteArray.empty) (l3.getD j false) = false ∧ (st = 1 → (l1.getD j ByteArray.empty).size = 0)) (show i < l1.length by omega) h]
      exact hih
    have fin : ∀ hb : badSlot (l1.getD i ByteArray.empty) (l3.getD i false) = false, Ev (fun k => if st = 1 then (if ((l1.getD i ByteArray.empty).size : Int) > 0 then (some false) else (spec_DiskOk.l0 k ((i + 1 : Nat) : Int) st l1 l2 l3 l4)) else (spec_DiskOk.l0 k ((i + 1 : Nat) : Int) st l1 l2 l3 l4)) (decide ((∀ j, i ≤ j → j < l1.length → badSlot (l1.getD j ByteArray.empty) (l3.getD j false) = false ∧ (st = 1 → (l1.getD j ByteArray.empty).size = 0)) ∧ Tail1 st l2 l4)) := fun hb => by
      by_cases c2 : st = 1
      · refine Ev.pos c2 ?_
        by_cases c3 : ((l1.getD i ByteArray.empty).size : Int) > 0
        · exact Ev.pos c3 (Ev.ret (bad (fun h => by have := h.2 c2; omega)))
        · exact Ev.neg c3 (good ⟨hb, fun _ => by omega⟩)
      · exact Ev.neg c2 (good ⟨hb, fun h => absurd h c2⟩)
    refine Ev.pos (by omega) (Ev.pos (by omega) ?_)
    by_cases c0 : ((l1.getD i ByteArray.empty).size : Int) = 0
    · have c0' : (l1.getD i ByteArray.empty).size = 0 := by omega
      refine Ev.pos c0 (Ev.pos (by omega) ?_)
      by_cases cs : l3.getD i false = true
      · exact Ev.pos cs (Ev.ret (bad (fun h => by have := h.1; unfold badSlot at this; rw [if_pos c0', cs] at this; cases this)))
      · exact Ev.neg cs (fin (by unfold badSlot; rw [if_pos c0']; simpa using cs))
    · have c0' : ¬ (l1.getD i ByteArray.empty).size = 0 := by omega
      refine Ev.neg c0 ?_
      by_cases c3 : ((l1.getD i ByteArray.empty).size : Int) = 3
      · have hb : badSlot (l1.getD i ByteArray.empty) (l3.getD i false) = false := by unfold badSlot; rw [if_neg c0']; exact decide_eq_false (by omega)
        refine Ev.pos c3 (Ev.pos (by omega) ?_)
        by_cases cs : l3.getD i false = true
        · exact Ev.pos cs (fin hb)
        · exact Ev.neg cs (fin hb)
      · exact Ev.neg c3 (Ev.ret (bad (fun h => by have := h.1; unfold badSlot at this; rw [if_neg c0'] at this; have := of_decide_eq_false this; omega)))
theorem all_getD {α : Type} {z : α} {l : List α} {p : α → Bool} : l.all p = true ↔ ∀ j, j < l.length → p (l.getD j z) = true := by
  rw [List.all_eq_true]
  constructor
  · intro h j hj
    exact h _ (getD_mem hj)
  · intro h x hx
    obtain ⟨j, hj, rfl⟩ := List.getElem_of_mem hx
    have := h j hj
    simpa [List.getD, hj] using this
theorem any_false {α : Type} {z : α} {l : List α} {p : α → Bool} : l.any p = false ↔ ∀ j, j < l.length → p (l.getD j z) = false := by
  rw [List.any_eq_false]
  constructor
  · intro h j hj
    simpa using h _ (getD_mem hj)
  · intro h x hx
    obtain ⟨j, hj, rfl⟩ := List.getElem_of_mem hx
    have := h j hj
    simpa [List.getD, hj] using this
open Classical in
theorem specDiskOk_ev (st : Int) (l1 l2 : List ByteArray) (l3 : List Bool) (l4 : List S54) (hl : l4.length ≤ 1048576) : Ev (fun k => spec_DiskOk.f k st l1 l2 l3 l4) (goodB st l1 l2 l3 l4) := by
  unfold spec_DiskOk.f
  have bad : ∀ h : ¬ Shaped st l1 l2 l3 l4, Ev (fun k => spec_DiskOk.j0 k true st l1 l2 l3 l4) (goodB st l1 l2 l3 l4) := by
    intro h
    refine Ev.next ?_
    simp only [spec_DiskOk.j0]
    exact Ev.pos trivial (Ev.ret (decide_eq_false (fun hg : Print.Good st l1 l2 l3 l4 => h hg.sh)).symm)
  refine Ev.take (l6In_eq _ _ _) ?_
  by_cases c0 : 0 ≤ st ∧ st ≤ 2
  · refine Ev.pos (decide_eq_true c0) ?_
    by_cases c1 : (l1.length : Int) = 12
    · refine Ev.pos c1 ?_
      by_cases c2 : (l2.length : Int) = 2
      · refine Ev.pos c2 ?_
        by_cases c3 : (l3.length : Int) = 12
        · refine Ev.pos c3 ?_
          by_cases c4 : (l4.length : Int) > 40
          · rw [decide_eq_true c4]
            exact bad (fun h => by unfold Shaped at h; omega)
          · rw [decide_eq_false c4]
            refine Ev.next ?_
            simp only [spec_DiskOk.j0]
            refine Ev.neg (by decide) ?_
            have hs : Shaped st l1 l2 l3 l4 := by unfold Shaped; omega
            have hk := dl0_ev (st := st) (l1 := l1) (l2 := l2) (l3 := l3) (l4 := l4) hl (by omega) (by omega) (by omega) l1.length 0 (Nat.zero_add _)
            have e : goodB st l1 l2 l3 l4 = true ↔ ((∀ j, 0 ≤ j → j < l1.length → badSlot (l1.getD j ByteArray.empty) (l3.getD j false) = false ∧ (st = 1 → (l1.getD j ByteArray.empty).size = 0)) ∧ Tail1 st l2 l4) := by
              unfold goodB
              rw [decide_eq_true_iff]
              constructor
              · intro hg
                refine ⟨fun j _ hj => ⟨hg.so j (by omega), fun h1 => ?_⟩, fun j _ hj => ⟨?_, fun h1 => ?_⟩, fun j _ hj => ?_, fun h1 => (hg.go h1).2.2⟩
                · simpa using all_getD.1 (hg.go h1).1 j hj
                · have := (any_false (z := ByteArray.empty)).1 hg.ro j hj
                  have := of_decide_eq_false this
                  omega
                · simpa using (all_getD (z := ByteArray.empty)).1 (hg.go h1).2.1 j hj
                · simpa using (any_false (z := z54)).1 hg.wa j hj
              · rintro ⟨h0, h1, h2, h3⟩
                refine ⟨hs, (any_false (z := z54)).2 fun j hj => by simpa using h2 j (Nat.zero_le _) hj, fun i hi => (h0 i (Nat.zero_le _) (by omega)).1, (any_false (z := ByteArray.empty)).2 fun j hj => decide_eq_false (by have := (h1 j (Nat.zero_le _) hj).1; omega), fun e => ⟨(all_getD (z := ByteArray.empty)).2 fun j hj => by simpa using (h0 j (Nat.zero_le _) hj).2 e, (all_getD (z := ByteArray.empty)).2 fun j hj => by simpa using (h1 j (Nat.zero_le _) hj).2 e, h3 e⟩⟩
            have e2 : goodB st l1 l2 l3 l4 = decide ((∀ j, 0 ≤ j → j < l1.length → badSlot (l1.getD j ByteArray.empty) (l3.getD j false) = false ∧ (st = 1 → (l1.getD j ByteArray.empty).size = 0)) ∧ Tail1 st l2 l4) := by
              rw [Bool.eq_iff_iff, decide_eq_true_iff]
              exact e
            rw [e2]
            exact hk
        · exact Ev.neg c3 (bad (fun h => by unfold Shaped at h; omega))
      · exact Ev.neg c2 (bad (fun h => by unfold Shaped at h; omega))
    · exact Ev.neg c1 (bad (fun h => by unfold Shaped at h; omega))
  · exact Ev.neg (by simpa using c0) (bad (fun h => c0 h.1))

end Go.Proofs.Ytkgpnloghmbmlaa.Pure
