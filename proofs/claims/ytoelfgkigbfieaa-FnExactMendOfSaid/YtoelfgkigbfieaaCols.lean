/- Proved: what the program's and the reference's functions on columns come to; columns of three bytes are a group under XorOf. Conditions: no more columns than a law lets in. -/
import Derived.Test.YtoelfgkigbfieaaXor
import Derived.Test.YtoelfgkigbfieaaPrint6
import Derived.Test.YtoelfgkigbfieaaPrint16
import Derived.Test.YtoelfgkigbfieaaPrint18
import Derived.Test.YtoelfgkigbfieaaPrint20
import Derived.Test.YtoelfgkigbfieaaPrint21
namespace Go.Proofs.Ytoelfgkigbfieaa.Pure
open Go.RowKit Go.Proofs.Ytoelfgkigbfieaa.Print Go.Proofs.YtoelfgkigbfieaaW.PrintWords

def colAt (cols : List ByteArray) (k : Nat) : ByteArray := cols.getD k ByteArray.empty
theorem rdOf_nat (cols : List ByteArray) (k : Nat) : rdOf ByteArray.empty cols (k : Int) = colAt cols k := by simp [rdOf, colAt]
def zero3 : ByteArray := ⟨#[0, 0, 0]⟩
theorem bt_zero3 (i : Nat) : bt zero3 (i : Int) = 0 := by
  rw [bt_list]
  match i with
  | 0 => rfl
  | 1 => rfl
  | 2 => rfl
  | i + 3 => rfl
theorem X3 {a b : ByteArray} (ha : a.size = 3) (hb : b.size = 3) : (X a b).size = 3 := by rw [X_size]; omega
theorem X_zero3 {a : ByteArray} (ha : a.size = 3) : X a zero3 = a := by
  apply text_ext
  · rw [X_size, ha]; rfl
  · intro i _
    rw [bt_X, bt_zero3, xb_zero (bt_byte _ _)]
theorem X_self3 {a : ByteArray} (ha : a.size = 3) : X a a = zero3 := by
  apply text_ext
  · rw [X_size, ha]; rfl
  · intro i _
    rw [bt_X, bt_zero3, xb_self (bt_byte _ _)]
theorem X_cancel {s c : ByteArray} (hs : s.size = 3) (hc : c.size = 3) : X (X s c) c = s := by rw [X_assoc, X_self3 hc, X_zero3 hs]
theorem X_eq {s c t : ByteArray} (hs : s.size = 3) (hc : c.size = 3) (h : X s c = t) : s = X t c := by rw [← h, X_cancel hs hc]

/-- p, with the first k columns, less the one at a. -/
def mf (cols : List ByteArray) (a : Nat) (p : ByteArray) : Nat → ByteArray
  | 0 => p
  | k + 1 => if k = a then mf cols a p k else X (mf cols a p k) (colAt cols k)
/-- The first k columns together. -/
def pf (cols : List ByteArray) : Nat → ByteArray
  | 0 => zero3
  | k + 1 => X (pf cols k) (colAt cols k)
def Cols3 (cols : List ByteArray) : Prop := ∀ k, k < cols.length → (colAt cols k).size = 3
def Others3 (cols : List ByteArray) (a : Int) : Prop := ∀ k : Nat, k < cols.length → (k : Int) ≠ a → (colAt cols k).size = 3
theorem Cols3.others {cols : List ByteArray} (h : Cols3 cols) (a : Int) : Others3 cols a := fun k hk _ => h k hk
theorem pf_size {cols : List ByteArray} (h : Cols3 cols) (k : Nat) (hk : k ≤ cols.length) : (pf cols k).size = 3 := by
  induction k with
  | zero => rfl
  | succ k ih => exact X3 (ih (by omega)) (h k (by omega))
theorem mf_size {cols : List ByteArray} {a : Nat} {p : ByteArray} (h : Others3 cols a) (hp : p.size = 3) (k : Nat) (hk : k ≤ cols.length) : (mf cols a p k).size = 3 := by
  induction k with
  | zero => exact hp
  | succ k ih =>
    simp only [mf]
    split
    · exact ih (by omega)
    · exact X3 (ih (by omega)) (h k (by omega) (by omega))
theorem mf_key {cols : List ByteArray} {a : Nat} {p : ByteArray} (hp : p.size = 3) (k : Nat) (hk : k ≤ cols.length) :
    (k ≤ a → mf cols a p k = X p (pf cols k)) ∧ (a < k → X (mf cols a p k) (colAt cols a) = X p (pf cols k)) := by
  induction k with
  | zero => exact ⟨fun _ => (X_zero3 hp).symm, fun h => by omega⟩
  | succ k ih =>
    obtain ⟨h1, h2⟩ := ih (by omega)
    constructor
    · intro hka
      simp only [mf, pf]
      rw [if_neg (by omega), h1 (by omega), X_assoc]
    · intro hka
      by_cases e : k = a
      · simp only [mf, pf]
        rw [if_pos e, h1 (by omega), X_assoc, e]
      · simp only [mf, pf]
        rw [if_neg e, X_assoc, X_comm (colAt cols k), ← X_assoc, h2 (by omega), X_assoc]
theorem colAt_set (cols : List ByteArray) (a k : Nat) (z : ByteArray) (ha : a < cols.length) : colAt (cols.set a z) k = if k = a then z else colAt cols k := by
  unfold colAt
  by_cases e : k = a
  · subst e
    simp [List.getD, ha]
  · simp only [List.getD, List.getElem?_set_ne (Ne.symm e), if_neg e]
theorem mf_set (cols : List ByteArray) (a : Nat) (z p : ByteArray) (ha : a < cols.length) (k : Nat) : mf (cols.set a z) a p k = mf cols a p k := by
  induction k with
  | zero => rfl
  | succ k ih =>
    simp only [mf]
    by_cases e : k = a
    · rw [if_pos e, if_pos e, ih]
    · rw [if_neg e, if_neg e, ih, colAt_set _ _ _ _ ha, if_neg e]
theorem colAt_append (cols more : List ByteArray) (k : Nat) (hk : k < cols.length) : colAt (cols ++ more) k = colAt cols k := by
  unfold colAt
  simp only [List.getD]
  rw [List.getElem?_append_left hk]
theorem pf_append (cols more : List ByteArray) (k : Nat) (hk : k ≤ cols.length) : pf (cols ++ more) k = pf cols k := by
  induction k with
  | zero => rfl
  | succ k ih => simp only [pf]; rw [ih (by omega), colAt_append _ _ _ (by omega)]

/-! ### what the functions come to -/
theorem l6In_eq (n lo hi : Int) : spec_l6In.f n lo hi = some (decide (lo ≤ n ∧ n ≤ hi)) := by
  unfold spec_l6In.f
  by_cases h : n ≥ lo
  · rw [if_pos h]
    have : (lo ≤ n ∧ n ≤ hi) ↔ n ≤ hi := ⟨fun x => x.2, fun x => ⟨h, x⟩⟩
    simp only [this]
  · rw [if_neg h]
    have : ¬ (lo ≤ n ∧ n ≤ hi) := fun x => h x.1
    simp only [this, decide_false]

theorem implAll_good (cols : List ByteArray) (a : Int) (hl : cols.length ≤ 1099511627776) (h : Others3 cols a) (d : Nat) : ∀ i : Nat, i + d = cols.length → Ev (fun k => impl_allColumns.l0 k a cols (cols.length : Int) (i : Int)) true := by
  induction d with
  | zero =>
    intro i hi
    refine Ev.next ?_
    simp only [impl_allColumns.l0]
    exact Ev.neg (by omega) (Ev.ret rfl)
  | succ d ih =>
    intro i hi
    have e : wrap64 ((i : Int) + 1) = ((i + 1 : Nat) : Int) := by rw [wrap_ok (by omega)]; omega
    have hih := ih (i + 1) (by omega)
    refine Ev.next ?_
    simp only [impl_allColumns.l0, e, rdOf_nat]
    clear e
    refine Ev.pos (by omega) (Ev.pos (by omega) (Ev.pos (by omega) (Ev.ite (fun _ => hih) (fun h1 => ?_))))
    refine Ev.take rfl (Ev.pos ?_ hih)
    have := h i (by omega) h1
    simp [this]
theorem implAll_bad (cols : List ByteArray) (a : Int) (hl : cols.length ≤ 1099511627776) (d : Nat) : ∀ i : Nat, i + d = cols.length → (∃ j : Nat, i ≤ j ∧ j < cols.length ∧ (j : Int) ≠ a ∧ (colAt cols j).size ≠ 3) → Ev (fun k => impl_allColumns.l0 k a cols (cols.length : Int) (i : Int)) false := by
  induction d with
  | zero =>
    intro i hi ⟨j, h1, h2, _, _⟩
    omega
  | succ d ih =>
    intro i hi hj
    have e : wrap64 ((i : Int) + 1) = ((i + 1 : Nat) : Int) := by rw [wrap_ok (by omega)]; omega
    have hih := ih (i + 1) (by omega)
    refine Ev.next ?_
    simp only [impl_allColumns.l0, e, rdOf_nat]
    clear e
    obtain ⟨j, h1, h2, h3, h4⟩ := hj
    have hrest : j ≠ i → ∃ j : Nat, i + 1 ≤ j ∧ j < cols.length ∧ (j : Int) ≠ a ∧ (colAt cols j).size ≠ 3 := fun hne => ⟨j, by omega, h2, h3, h4⟩
    refine Ev.pos (by omega) (Ev.pos (by omega) (Ev.pos (by omega) (Ev.ite (fun hia => hih (hrest (fun he => h3 (by rw [he]; exact hia)))) (fun hia => ?_))))
    by_cases hs : (colAt cols i).size = 3
    · refine Ev.take rfl (Ev.pos ?_ (hih (hrest (fun he => h4 (by rw [he]; exact hs)))))
      simp [hs]
    · refine Ev.take rfl (Ev.neg ?_ (Ev.ret rfl))
      simp
      omega
open Classical in
theorem implAll_ev (cols : List ByteArray) (a : Int) (hl : cols.length ≤ 1099511627776) : Ev (fun k => impl_allColumns.f k cols a) (decide (Others3 cols a)) := by
  unfold impl_allColumns.f
  by_cases h : Others3 cols a
  · rw [decide_eq_true h]
    exact implAll_good cols a hl h _ 0 (Nat.zero_add _)
  · rw [decide_eq_false h]
    refine implAll_bad cols a hl _ 0 (Nat.zero_add _) ?_
    simp only [Others3, Classical.not_forall] at h
    obtain ⟨j, h1, h2, h3⟩ := h
    exact ⟨j, by omega, h1, h2, h3⟩

theorem implMend_l0 (cols : List ByteArray) (a : Nat) (p : ByteArray) (hl : cols.length ≤ 3) (hp : p.size = 3) (h : Others3 cols a) (d : Nat) : ∀ i : Nat, i + d = cols.length →
    Ev (fun k => impl_MendOf.l0 k (a : Int) (mf cols a p i) cols (cols.length : Int) (i : Int)) (mf cols a p cols.length, true) := by
  induction d with
  | zero =>
    intro i hi
    refine Ev.next ?_
    simp only [impl_MendOf.l0]
    refine Ev.neg (by omega) (Ev.ret ?_)
    have : i = cols.length := by omega
    rw [this]
  | succ d ih =>
    intro i hi
    have e : wrap64 ((i : Int) + 1) = ((i + 1 : Nat) : Int) := by rw [wrap_ok (by omega)]; omega
    have hih := ih (i + 1) (by omega)
    have hs := mf_size h hp i (by omega)
    refine Ev.next ?_
    simp only [impl_MendOf.l0, e, rdOf_nat]
    clear e
    simp only [mf] at hih
    refine Ev.pos (by omega) (Ev.pos (by omega) (Ev.pos (by omega) ?_))
    by_cases hia : i = a
    · rw [if_pos hia] at hih
      exact Ev.pos (by omega) hih
    · rw [if_neg hia] at hih
      have hc := h i (by omega) (by omega)
      exact Ev.neg (by omega) (Ev.take (implXor_eq _ _ (by omega) (by omega)) hih)

/-- A pointer at a column that is there, and all else columns. -/
structure MendOk (cols : List ByteArray) (p : ByteArray) (a : Int) : Prop where
  len : cols.length ≤ 3
  lo : 0 ≤ a
  hi : a < cols.length
  par : p.size = 3
  oth : Others3 cols a

open Classical in
noncomputable def mendR (cols : List ByteArray) (p : ByteArray) (a : Int) : ByteArray × Bool := if MendOk cols p a then (mf cols a.toNat p cols.length, true) else ((⟨#[]⟩ : ByteArray), false)
theorem mendR_ok {cols : List ByteArray} {p : ByteArray} {a : Nat} (h : MendOk cols p a) : mendR cols p a = (mf cols a p cols.length, true) := by
  unfold mendR
  rw [if_pos h, Int.toNat_natCast]
theorem mendR_no {cols : List ByteArray} {p : ByteArray} {a : Int} (h : ¬ MendOk cols p a) : mendR cols p a = ((⟨#[]⟩ : ByteArray), false) := by
  unfold mendR
  rw [if_neg h]

theorem implMend_ev (cols : List ByteArray) (p : ByteArray) (a : Int) : Ev (fun k => impl_MendOf.f k cols p a) (mendR cols p a) := by
  have bad : ∀ h : ¬ MendOk cols p a, Ev (fun k => impl_MendOf.j0 k cols p a true) (mendR cols p a) := by
    intro h
    refine Ev.next ?_
    simp only [impl_MendOf.j0]
    exact Ev.pos trivial (Ev.ret (mendR_no h).symm)
  unfold impl_MendOf.f
  refine Ev.ite (fun h1 => bad (fun h => by have := h.len; omega)) (fun h1 => Ev.ite (fun h2 => bad (fun h => by have := h.lo; omega)) (fun h2 => Ev.ite (fun h3 => bad (fun h => by have := h.hi; omega)) (fun h3 => ?_)))
  refine Ev.take rfl (Ev.ite (fun h4 => ?_) (fun h4 => bad (fun h => h4 (by have := h.par; simp [this]))))
  have hp : p.size = 3 := by have h5 := h4; simp at h5; omega
  refine Ev.bind (implAll_ev cols a (by omega)) (Ev.next ?_)
  simp only [impl_MendOf.j0]
  by_cases ho : Others3 cols a
  · obtain ⟨a, rfl⟩ := Int.eq_ofNat_of_zero_le (show 0 ≤ a by omega)
    have hok : MendOk cols p a := ⟨by omega, by omega, by omega, hp, ho⟩
    rw [mendR_ok hok]
    exact Ev.neg (by simp [ho]) (implMend_l0 cols a p (by omega) hp ho _ 0 (Nat.zero_add _))
  · exact Ev.pos (by simp [ho]) (Ev.ret (mendR_no (fun h => ho h.oth)).symm)

theorem specMend_good (cols : List ByteArray) (a : Nat) (p : ByteArray) (hl : cols.length ≤ 3) (hp : p.size = 3) (h : Others3 cols a) (d : Nat) : ∀ i : Nat, i + d = cols.length →
    Ev (fun k => spec_MendOf.l0 k cols (a : Int) (mf cols a p i) (i : Int)) (mf cols a p cols.length, true) := by
  induction d with
  | zero =>
    intro i hi
    refine Ev.next ?_
    simp only [spec_MendOf.l0]
    refine Ev.neg (by omega) (Ev.ret ?_)
    have : i = cols.length := by omega
    rw [this]
  | succ d ih =>
    intro i hi
    have e : wrap64 ((i : Int) + 1) = ((i + 1 : Nat) : Int) := by rw [wrap_ok (by omega)]; omega
    have hih := ih (i + 1) (by omega)
    have hs := mf_size h hp i (by omega)
    refine Ev.next ?_
    simp only [spec_MendOf.l0, e, rdOf_nat]
    clear e
    simp only [mf] at hih
    refine Ev.pos (by omega) ?_
    by_cases hia : i = a
    · rw [if_pos hia] at hih
      exact Ev.pos (by omega) hih
    · rw [if_neg hia] at hih
      have hc := h i (by omega) (by omega)
      exact Ev.neg (by omega) (Ev.pos (by omega) (Ev.pos (by omega) (Ev.bind (specXor_ev _ _ (by omega) (by omega)) hih)))
theorem specMend_bad (cols : List ByteArray) (a : Nat) (hl : cols.length ≤ 3) (d : Nat) : ∀ (i : Nat) (q : ByteArray), i + d = cols.length → q.size = 3 → (∃ j : Nat, i ≤ j ∧ j < cols.length ∧ j ≠ a ∧ (colAt cols j).size ≠ 3) →
    Ev (fun k => spec_MendOf.l0 k cols (a : Int) q (i : Int)) ((⟨#[]⟩ : ByteArray), false) := by
  induction d with
  | zero =>
    intro i q hi _ ⟨j, h1, h2, _, _⟩
    omega
  | succ d ih =>
    intro i q hi hq hj
    have e : wrap64 ((i : Int) + 1) = ((i + 1 : Nat) : Int) := by rw [wrap_ok (by omega)]; omega
    refine Ev.next ?_
    simp only [spec_MendOf.l0, e, rdOf_nat]
    clear e
    obtain ⟨j, h1, h2, h3, h4⟩ := hj
    have hrest : j ≠ i → ∃ j : Nat, i + 1 ≤ j ∧ j < cols.length ∧ j ≠ a ∧ (colAt cols j).size ≠ 3 := fun hne => ⟨j, by omega, h2, h3, h4⟩
    refine Ev.pos (by omega) (Ev.ite (fun hia => ih (i + 1) q (by omega) hq (hrest (fun he => h3 (by omega)))) (fun hia => Ev.pos (by omega) ?_))
    by_cases hs : (colAt cols i).size = 3
    · exact Ev.pos (by omega) (Ev.bind (specXor_ev _ _ (by omega) (by omega)) (ih (i + 1) _ (by omega) (X3 hq hs) (hrest (fun he => h4 (by rw [he]; exact hs)))))
    · exact Ev.neg (by omega) (Ev.ret rfl)
theorem specMend_ev (cols : List ByteArray) (p : ByteArray) (a : Int) : Ev (fun k => spec_MendOf.f k cols p a) (mendR cols p a) := by
  have bad : ∀ h : ¬ MendOk cols p a, Ev (fun k => spec_MendOf.j0 k cols p a true) (mendR cols p a) := by
    intro h
    refine Ev.next ?_
    simp only [spec_MendOf.j0]
    exact Ev.pos trivial (Ev.ret (mendR_no h).symm)
  unfold spec_MendOf.f
  refine Ev.ite (fun h1 => bad (fun h => by have := h.len; omega)) (fun h1 => Ev.ite (fun h2 => ?_) (fun h2 => bad (fun h => h2 (by have := h.par; omega))))
  have e : wrap64 ((cols.length : Int) - 1) = (cols.length : Int) - 1 := wrap_ok (by omega)
  rw [e]
  clear e
  refine Ev.take (l6In_eq _ _ _) ?_
  by_cases h3 : 0 ≤ a ∧ a ≤ (cols.length : Int) - 1
  · rw [decide_eq_true h3]
    refine Ev.next ?_
    simp only [spec_MendOf.j0]
    refine Ev.neg (by simp) ?_
    obtain ⟨a, rfl⟩ := Int.eq_ofNat_of_zero_le h3.1
    by_cases ho : Others3 cols a
    · have hok : MendOk cols p a := ⟨by omega, by omega, by omega, by omega, ho⟩
      rw [mendR_ok hok]
      exact specMend_good cols a p (by omega) (by omega) ho _ 0 (Nat.zero_add _)
    · rw [mendR_no (fun h => ho h.oth)]
      refine specMend_bad cols a (by omega) _ 0 p (Nat.zero_add _) (by omega) ?_
      simp only [Others3, Classical.not_forall] at ho
      obtain ⟨j, j1, j2, j3⟩ := ho
      exact ⟨j, by omega, j1, by omega, j3⟩
  · rw [decide_eq_false h3]
    exact bad (fun h => h3 ⟨h.lo, by have := h.hi; omega⟩)

/-! ### parity -/
structure ParOk (cols : List ByteArray) : Prop where
  lo : 1 ≤ cols.length
  hi : cols.length ≤ 3
  cols3 : Cols3 cols
open Classical in
noncomputable def parR (cols : List ByteArray) : ByteArray := if ParOk cols then pf cols cols.length else (⟨#[]⟩ : ByteArray)
theorem parR_ok {cols : List ByteArray} (h : ParOk cols) : parR cols = pf cols cols.length := by unfold parR; rw [if_pos h]
theorem parR_no {cols : List ByteArray} (h : ¬ ParOk cols) : parR cols = (⟨#[]⟩ : ByteArray) := by unfold parR; rw [if_neg h]
/-- As the program begins: with no text. -/
def pe (cols : List ByteArray) : Nat → ByteArray
  | 0 => (⟨#[]⟩ : ByteArray)
  | k + 1 => X (pe cols k) (colAt cols k)
theorem pe_eq {cols : List ByteArray} (h : Cols3 cols) (k : Nat) (hk : k + 1 ≤ cols.length) : pe cols (k + 1) = pf cols (k + 1) := by
  induction k with
  | zero =>
    have h0 := h 0 (by omega)
    show X (⟨#[]⟩ : ByteArray) (colAt cols 0) = X zero3 (colAt cols 0)
    rw [X_comm, X_empty, X_comm zero3, X_zero3 h0]
  | succ k ih =>
    show X (pe cols (k + 1)) _ = X (pf cols (k + 1)) _
    rw [ih (by omega)]
theorem pe_size {cols : List ByteArray} (h : Cols3 cols) (k : Nat) (hk : k ≤ cols.length) : (pe cols k).size ≤ 3 := by
  match k with
  | 0 => exact Nat.zero_le _
  | k + 1 => rw [pe_eq h k hk, pf_size h (k + 1) hk]; omega
theorem implPar_l0 (cols : List ByteArray) (hl : cols.length ≤ 3) (h : Cols3 cols) (d : Nat) : ∀ i : Nat, i + d = cols.length →
    Ev (fun k => impl_ParityOf.l0 k (pe cols i) cols (cols.length : Int) (i : Int)) (pe cols cols.length) := by
  induction d with
  | zero =>
    intro i hi
    refine Ev.next ?_
    simp only [impl_ParityOf.l0]
    refine Ev.neg (by omega) (Ev.ret ?_)
    have : i = cols.length := by omega
    rw [this]
  | succ d ih =>
    intro i hi
    have e : wrap64 ((i : Int) + 1) = ((i + 1 : Nat) : Int) := by rw [wrap_ok (by omega)]; omega
    have hih := ih (i + 1) (by omega)
    have hs := pe_size h i (by omega)
    have hc := h i (by omega)
    refine Ev.next ?_
    simp only [impl_ParityOf.l0, e, rdOf_nat]
    clear e
    exact Ev.pos (by omega) (Ev.pos (by omega) (Ev.pos (by omega) (Ev.take (implXor_eq _ _ (by omega) (by omega)) hih)))
theorem implPar_ev (cols : List ByteArray) : Ev (fun k => impl_ParityOf.f k cols) (parR cols) := by
  have bad : ∀ h : ¬ ParOk cols, Ev (fun k => impl_ParityOf.j0 k cols true) (parR cols) := by
    intro h
    refine Ev.next ?_
    simp only [impl_ParityOf.j0]
    exact Ev.pos trivial (Ev.ret (parR_no h).symm)
  unfold impl_ParityOf.f
  refine Ev.ite (fun h1 => bad (fun h => by have := h.lo; omega)) (fun h1 => Ev.ite (fun h2 => bad (fun h => by have := h.hi; omega)) (fun h2 => ?_))
  refine Ev.bind (implAll_ev cols (-1) (by omega)) (Ev.next ?_)
  simp only [impl_ParityOf.j0]
  by_cases ho : Others3 cols (-1)
  · have h3 : Cols3 cols := fun k hk => ho k hk (by omega)
    have hok : ParOk cols := ⟨by omega, by omega, h3⟩
    rw [parR_ok hok]
    have hp := pe_eq h3 (cols.length - 1) (by omega)
    rw [show cols.length - 1 + 1 = cols.length by omega] at hp
    rw [← hp]
    exact Ev.neg (by simp [ho]) (implPar_l0 cols (by omega) h3 _ 0 (Nat.zero_add _))
  · exact Ev.pos (by simp [ho]) (Ev.ret (parR_no (fun h => ho (h.cols3.others _))).symm)

theorem specCols_good (cols : List ByteArray) (hl : cols.length ≤ 1099511627776) (h : Cols3 cols) (d : Nat) : ∀ i : Nat, i + d = cols.length → Ev (fun k => spec_l1Cols.l0 k cols (i : Int)) (decide (1 ≤ (cols.length : Int) ∧ (cols.length : Int) ≤ 3)) := by
  induction d with
  | zero =>
    intro i hi
    refine Ev.next ?_
    simp only [spec_l1Cols.l0]
    exact Ev.neg (by omega) (Ev.take (l6In_eq _ _ _) (Ev.ret rfl))
  | succ d ih =>
    intro i hi
    have e : wrap64 ((i : Int) + 1) = ((i + 1 : Nat) : Int) := by rw [wrap_ok (by omega)]; omega
    have hih := ih (i + 1) (by omega)
    have hc := h i (by omega)
    refine Ev.next ?_
    simp only [spec_l1Cols.l0, e, rdOf_nat]
    clear e
    exact Ev.pos (by omega) (Ev.pos (by omega) (Ev.pos (by omega) hih))
theorem specCols_bad (cols : List ByteArray) (hl : cols.length ≤ 1099511627776) (d : Nat) : ∀ i : Nat, i + d = cols.length → (∃ j : Nat, i ≤ j ∧ j < cols.length ∧ (colAt cols j).size ≠ 3) → Ev (fun k => spec_l1Cols.l0 k cols (i : Int)) false := by
  induction d with
  | zero =>
    intro i hi ⟨j, h1, h2, _⟩
    omega
  | succ d ih =>
    intro i hi hj
    have e : wrap64 ((i : Int) + 1) = ((i + 1 : Nat) : Int) := by rw [wrap_ok (by omega)]; omega
    refine Ev.next ?_
    simp only [spec_l1Cols.l0, e, rdOf_nat]
    clear e
    obtain ⟨j, h1, h2, h4⟩ := hj
    refine Ev.pos (by omega) (Ev.pos (by omega) ?_)
    by_cases hs : (colAt cols i).size = 3
    · have hne : j ≠ i := fun he => h4 (by rw [he]; exact hs)
      exact Ev.pos (by omega) (ih (i + 1) (by omega) ⟨j, by omega, h2, h4⟩)
    · exact Ev.neg (by omega) (Ev.ret rfl)
open Classical in
theorem specCols_ev (cols : List ByteArray) (hl : cols.length ≤ 1099511627776) : Ev (fun k => spec_l1Cols.f k cols) (decide (ParOk cols)) := by
  unfold spec_l1Cols.f
  by_cases h : Cols3 cols
  · have e : decide (ParOk cols) = decide (1 ≤ (cols.length : Int) ∧ (cols.length : Int) ≤ 3) := by
      apply decide_eq_decide.2
      exact ⟨fun x => ⟨by have := x.lo; omega, by have := x.hi; omega⟩, fun x => ⟨by omega, by omega, h⟩⟩
    rw [e]
    exact specCols_good cols hl h _ 0 (Nat.zero_add _)
  · rw [decide_eq_false (fun x : ParOk cols => h x.cols3)]
    refine specCols_bad cols hl _ 0 (Nat.zero_add _) ?_
    simp only [Cols3, Classical.not_forall] at h
    obtain ⟨j, h1, h2⟩ := h
    exact ⟨j, by omega, h1, h2⟩
theorem specSec_cut (s : ByteArray) (h : 3 ≤ s.size) : ∃ t : ByteArray, Ev (fun k => spec_l1Sec.l0 k s) t ∧ t.size = 3 ∧ ∀ i : Nat, i < 3 → bt t (i : Int) = bt s (i : Int) := by
  refine ⟨s.extract 0 3, Ev.next ?_, by rw [size_extract _ _ _ h], fun i hi => ?_⟩
  · simp only [spec_l1Sec.l0]
    exact Ev.neg (by omega) (Ev.pos (by omega) (Ev.pos (by omega) (Ev.ret rfl)))
  · rw [bt_extract s 0 3 i h (by omega), Nat.zero_add]
theorem specSec_pad (d : Nat) : ∀ s : ByteArray, s.size + d = 3 → ∃ t : ByteArray, Ev (fun k => spec_l1Sec.l0 k s) t ∧ t.size = 3 ∧ ∀ i : Nat, i < 3 → bt t (i : Int) = bt s (i : Int) := by
  induction d with
  | zero => intro s hs; exact specSec_cut s (by omega)
  | succ d ih =>
    intro s hs
    have hz : (s ++ (⟨#[0]⟩ : ByteArray)).size = s.size + 1 := by rw [ByteArray.size_append]; rfl
    obtain ⟨t, h1, h2, h3⟩ := ih (s ++ (⟨#[0]⟩ : ByteArray)) (by omega)
    refine ⟨t, Ev.next ?_, h2, fun i hi => ?_⟩
    · simp only [spec_l1Sec.l0]
      exact Ev.pos (by omega) (Ev.pos (by omega) h1)
    · rw [h3 i hi]
      by_cases hi : i < s.size
      · exact bt_append_left _ _ _ hi
      · rw [bt_over s i (by omega)]
        obtain ⟨j, rfl⟩ : ∃ j, i = s.size + j := ⟨i - s.size, by omega⟩
        rw [bt_append_right]
        rw [bt_list]
        match j with
        | 0 => rfl
        | j + 1 => rfl
/-- Cut off, or with noughts behind. -/
theorem specSec_ev (s : ByteArray) : ∃ t : ByteArray, Ev (fun k => spec_l1Sec.f k s) t ∧ t.size = 3 ∧ ∀ i : Nat, i < 3 → bt t (i : Int) = bt s (i : Int) := by
  unfold spec_l1Sec.f
  by_cases h : 3 ≤ s.size
  · exact specSec_cut s h
  · exact specSec_pad (3 - s.size) s (by omega)
theorem specPar_l0 (cols : List ByteArray) (hl : cols.length ≤ 3) (h : Cols3 cols) (d : Nat) : ∀ i : Nat, i + d = cols.length →
    Ev (fun k => spec_l1Parity.l0 k cols (pf cols i) (i : Int)) (pf cols cols.length) := by
  induction d with
  | zero =>
    intro i hi
    refine Ev.next ?_
    simp only [spec_l1Parity.l0]
    refine Ev.neg (by omega) (Ev.ret ?_)
    have : i = cols.length := by omega
    rw [this]
  | succ d ih =>
    intro i hi
    have e : wrap64 ((i : Int) + 1) = ((i + 1 : Nat) : Int) := by rw [wrap_ok (by omega)]; omega
    have hih := ih (i + 1) (by omega)
    have hs := pf_size h i (by omega)
    have hc := h i (by omega)
    refine Ev.next ?_
    simp only [spec_l1Parity.l0, e, rdOf_nat]
    clear e
    exact Ev.pos (by omega) (Ev.pos (by omega) (Ev.bind (specXor_ev _ _ (by omega) (by omega)) hih))
theorem specPar1_ev {cols : List ByteArray} (h : ParOk cols) : Ev (fun k => spec_l1Parity.f k cols) (pf cols cols.length) := by
  unfold spec_l1Parity.f
  obtain ⟨t, h1, h2, h3⟩ := specSec_ev (⟨#[]⟩ : ByteArray)
  have ht : t = zero3 := text_ext (by rw [h2]; rfl) (fun i hi => by rw [h3 i (by omega), bt_zero3, bt_over (⟨#[]⟩ : ByteArray) i (Nat.zero_le i)])
  rw [ht] at h1
  exact Ev.bind h1 (specPar_l0 cols h.hi h.cols3 _ 0 (Nat.zero_add _))
theorem specPar_ev (cols : List ByteArray) (hl : cols.length ≤ 1099511627776) : Ev (fun k => spec_ParityOf.f k cols) (parR cols) := by
  unfold spec_ParityOf.f
  refine Ev.bind (specCols_ev cols hl) ?_
  by_cases h : ParOk cols
  · rw [parR_ok h]
    exact Ev.pos (by simp [h]) (Ev.bind (specPar1_ev h) (Ev.ret rfl))
  · rw [parR_no h]
    exact Ev.neg (by simp [h]) (Ev.ret rfl)
end Go.Proofs.Ytoelfgkigbfieaa.Pure
