/- Proved: what the program's and the reference's TextOf come to. Conditions: no more than 2^40 columns. -/
import Derived.Test.YtoelfgkigbfieaaDoorEv
import Derived.Test.YtoelfgkigbfieaaDoorPrint5
import Derived.Test.YtoelfgkigbfieaaDoorPrint2
namespace Go.Proofs.YtoelfgkigbfieaaDoor.Pure
open Go.RowKit Go.Proofs.YtoelfgkigbfieaaDoor.Print Go.Proofs.YtoelfgkigbfieaaDoorW.PrintWords Go.Proofs.YtoelfgkigbfieaaDoorW.PrintLast
set_option linter.unusedSimpArgs false

theorem Ev.next {α : Type} {g : Nat → Option α} {r : α} (k : Ev (fun n => g (n + 1)) r) : Ev g r := Ev.step (fun _ => rfl) k
def colAt (cols : List ByteArray) (k : Nat) : ByteArray := cols.getD k ByteArray.empty
theorem rdOf_nat (cols : List ByteArray) (k : Nat) : rdOf ByteArray.empty cols (k : Int) = colAt cols k := by simp [rdOf, colAt]
def Cols3 (cols : List ByteArray) : Prop := ∀ k, k < cols.length → (colAt cols k).size = 3
def Others3 (cols : List ByteArray) (a : Int) : Prop := ∀ k : Nat, k < cols.length → (k : Int) ≠ a → (colAt cols k).size = 3
theorem Cols3.others {cols : List ByteArray} (h : Cols3 cols) (a : Int) : Others3 cols a := fun k hk _ => h k hk
theorem l6In_eq (n lo hi : Int) : spec_l6In.f n lo hi = some (decide (lo ≤ n ∧ n ≤ hi)) := by
  unfold spec_l6In.f
  by_cases h : n ≥ lo
  · rw [if_pos h]
    have : (lo ≤ n ∧ n ≤ hi) ↔ n ≤ hi := ⟨fun x => x.2, fun x => ⟨h, x⟩⟩
    simp only [this]
  · rw [if_neg h]
    have : ¬ (lo ≤ n ∧ n ≤ hi) := fun x => h x.1
    simp only [this, decide_false]

theorem implAll_good (cols : List ByteArray) (a : Int) (hl : cols.length ≤ 1099511627776) (h : Others3 cols a) (d : Nat) : ∀ i : Nat, i + d = cols.length → Ev (fun k => impl_allColumns.l0 k a cols (cols.length : Int) (i : Int)) true := by
  induction d with
  | zero =>
    intro i hi
    refine Ev.next ?_
    simp only [impl_allColumns.l0]
    exact Ev.neg (by omega) (Ev.ret rfl)
  | succ d ih =>
    intro i hi
    have e : wrap64 ((i : Int) + 1) = ((i + 1 : Nat) : Int) := by rw [wrap_ok (by omega)]; omega
    have hih := ih (i + 1) (by omega)
    refine Ev.next ?_
    simp only [impl_allColumns.l0, e, rdOf_nat]
    clear e
    refine Ev.pos (by omega) (Ev.pos (by omega) (Ev.pos (by omega) (Ev.ite (fun _ => hih) (fun h1 => ?_))))
    refine Ev.take rfl (Ev.pos ?_ hih)
    have := h i (by omega) h1
    simp [this]
theorem implAll_bad (cols : List ByteArray) (a : Int) (hl : cols.length ≤ 1099511627776) (d : Nat) : ∀ i : Nat, i + d = cols.length → (∃ j : Nat, i ≤ j ∧ j < cols.length ∧ (j : Int) ≠ a ∧ (colAt cols j).size ≠ 3) → Ev (fun k => impl_allColumns.l0 k a cols (cols.length : Int) (i : Int)) false := by
  induction d with
  | zero =>
    intro i hi ⟨j, h1, h2, _, _⟩
    omega
  | succ d ih =>
    intro i hi hj
    have e : wrap64 ((i : Int) + 1) = ((i + 1 : Nat) : Int) := by rw [wrap_ok (by omega)]; omega
    have hih := ih (i + 1) (by omega)
    refine Ev.next ?_
    simp only [impl_allColumns.l0, e, rdOf_nat]
    clear e
    obtain ⟨j, h1, h2, h3, h4⟩ := hj
    have hrest : j ≠ i → ∃ j : Nat, i + 1 ≤ j ∧ j < cols.length ∧ (j : Int) ≠ a ∧ (colAt cols j).size ≠ 3 := fun hne => ⟨j, by omega, h2, h3, h4⟩
    refine Ev.pos (by omega) (Ev.pos (by omega) (Ev.pos (by omega) (Ev.ite (fun hia => hih (hrest (fun he => h3 (by rw [he]; exact hia)))) (fun hia => ?_))))
    by_cases hs : (colAt cols i).size = 3
    · refine Ev.take rfl (Ev.pos ?_ (hih (hrest (fun he => h4 (by rw [he]; exact hs)))))
      simp [hs]
    · refine Ev.take rfl (Ev.neg ?_ (Ev.ret rfl))
      simp
      omega
open Classical in
theorem implAll_ev (cols : List ByteArray) (a : Int) (hl : cols.length ≤ 1099511627776) : Ev (fun k => impl_allColumns.f k cols a) (decide (Others3 cols a)) := by
  unfold impl_allColumns.f
  by_cases h : Others3 cols a
  · rw [decide_eq_true h]
    exact implAll_good cols a hl h _ 0 (Nat.zero_add _)
  · rw [decide_eq_false h]
    refine implAll_bad cols a hl _ 0 (Nat.zero_add _) ?_
    simp only [Others3, Classical.not_forall] at h
    obtain ⟨j, h1, h2, h3⟩ := h
    exact ⟨j, by omega, h1, h2, h3⟩

structure ParOk (cols : List ByteArray) : Prop where
  lo : 1 ≤ cols.length
  hi : cols.length ≤ 3
  cols3 : Cols3 cols
theorem specCols_good (cols : List ByteArray) (hl : cols.length ≤ 1099511627776) (h : Cols3 cols) (d : Nat) : ∀ i : Nat, i + d = cols.length → Ev (fun k => spec_l1Cols.l0 k cols (i : Int)) (decide (1 ≤ (cols.length : Int) ∧ (cols.length : Int) ≤ 3)) := by
  induction d with
  | zero =>
    intro i hi
    refine Ev.next ?_
    simp only [spec_l1Cols.l0]
    exact Ev.neg (by omega) (Ev.take (l6In_eq _ _ _) (Ev.ret rfl))
  | succ d ih =>
    intro i hi
    have e : wrap64 ((i : Int) + 1) = ((i + 1 : Nat) : Int) := by rw [wrap_ok (by omega)]; omega
    have hih := ih (i + 1) (by omega)
    have hc := h i (by omega)
    refine Ev.next ?_
    simp only [spec_l1Cols.l0, e, rdOf_nat]
    clear e
    exact Ev.pos (by omega) (Ev.pos (by omega) (Ev.pos (by omega) hih))
theorem specCols_bad (cols : List ByteArray) (hl : cols.length ≤ 1099511627776) (d : Nat) : ∀ i : Nat, i + d = cols.length → (∃ j : Nat, i ≤ j ∧ j < cols.length ∧ (colAt cols j).size ≠ 3) → Ev (fun k => spec_l1Cols.l0 k cols (i : Int)) false := by
  induction d with
  | zero =>
    intro i hi ⟨j, h1, h2, _⟩
    omega
  | succ d ih =>
    intro i hi hj
    have e : wrap64 ((i : Int) + 1) = ((i + 1 : Nat) : Int) := by rw [wrap_ok (by omega)]; omega
    refine Ev.next ?_
    simp only [spec_l1Cols.l0, e, rdOf_nat]
    clear e
    obtain ⟨j, h1, h2, h4⟩ := hj
    refine Ev.pos (by omega) (Ev.pos (by omega) ?_)
    by_cases hs : (colAt cols i).size = 3
    · have hne : j ≠ i := fun he => h4 (by rw [he]; exact hs)
      exact Ev.pos (by omega) (ih (i + 1) (by omega) ⟨j, by omega, h2, h4⟩)
    · exact Ev.neg (by omega) (Ev.ret rfl)
open Classical in
theorem specCols_ev (cols : List ByteArray) (hl : cols.length ≤ 1099511627776) : Ev (fun k => spec_l1Cols.f k cols) (decide (ParOk cols)) := by
  unfold spec_l1Cols.f
  by_cases h : Cols3 cols
  · have e : decide (ParOk cols) = decide (1 ≤ (cols.length : Int) ∧ (cols.length : Int) ≤ 3) := by
      apply decide_eq_decide.2
      exact ⟨fun x => ⟨by have := x.lo; omega, by have := x.hi; omega⟩, fun x => ⟨by omega, by omega, h⟩⟩
    rw [e]
    exact specCols_good cols hl h _ 0 (Nat.zero_add _)
  · rw [decide_eq_false (fun x : ParOk cols => h x.cols3)]
    refine specCols_bad cols hl _ 0 (Nat.zero_add _) ?_
    simp only [Cols3, Classical.not_forall] at h
    obtain ⟨j, h1, h2⟩ := h
    exact ⟨j, by omega, h1, h2⟩

/-! ### columns behind each other -/
def J (l : List ByteArray) : ByteArray := l.foldl (· ++ ·) (⟨#[]⟩ : ByteArray)
theorem J_snoc (l : List ByteArray) (x : ByteArray) : J (l ++ [x]) = J l ++ x := by simp [J, List.foldl_append]
theorem fold_data (l : List ByteArray) : ∀ a : ByteArray, (l.foldl (· ++ ·) a).data.toList = a.data.toList ++ (l.map (·.data.toList)).flatten := by
  induction l with
  | nil => intro a; simp
  | cons x l ih => intro a; simp only [List.foldl_cons, ih, List.map_cons, List.flatten_cons]; simp
theorem J_data (l : List ByteArray) : (J l).data.toList = (l.map (·.data.toList)).flatten := by rw [J, fold_data]; simp
theorem joinTail_nil : ∀ r : List (List UInt8), Lib.joinTail [] r = r.flatten := by
  intro r
  simp [Lib.joinTail]
theorem join_nil_sep (l : List (List UInt8)) : Lib.join l [] = l.flatten := by
  cases l with
  | nil => rfl
  | cons x r => rw [Lib.join_cons, joinTail_nil, List.flatten_cons]
theorem catL_J (l : List ByteArray) : catL l = J l := by
  apply ByteArray.ext
  apply Array.toList_inj.1
  rw [J_data, catL, join_nil_sep]
theorem join_eq (l : List ByteArray) (hl : l.length ≤ 3) (hz : (J l).size ≤ 1000) : strings_Join.f l (⟨#[]⟩ : ByteArray) = some (J l) := by
  have e : (Lib.join (l.map (·.data.toList)) []).length = (J l).size := by
    rw [join_nil_sep, ← J_data]
    simp
  unfold strings_Join.f
  rw [if_pos ⟨by omega, rfl, by rw [e]; omega⟩, catL_J]
def Jn (l : List ByteArray) (i : Nat) : ByteArray := J (l.take i)
theorem Jn_zero (l : List ByteArray) : Jn l 0 = (⟨#[]⟩ : ByteArray) := rfl
theorem Jn_all (l : List ByteArray) : Jn l l.length = J l := by simp [Jn]
theorem take_snoc (l : List ByteArray) (i : Nat) (h : i < l.length) : l.take (i + 1) = l.take i ++ [colAt l i] := by
  rw [List.take_add_one]
  simp [colAt, List.getD, h]
theorem Jn_succ (l : List ByteArray) (i : Nat) (h : i < l.length) : Jn l (i + 1) = Jn l i ++ colAt l i := by rw [Jn, take_snoc l i h, J_snoc]; rfl
theorem Jn_size {l : List ByteArray} (h : Cols3 l) (i : Nat) (hi : i ≤ l.length) : (Jn l i).size = 3 * i := by
  induction i with
  | zero => rfl
  | succ i ih => rw [Jn_succ l i (by omega), ByteArray.size_append, ih (by omega), h i (by omega)]; omega
theorem J_size {l : List ByteArray} (h : Cols3 l) : (J l).size = 3 * l.length := by rw [← Jn_all, Jn_size h _ (Nat.le_refl _)]
theorem bt_Jn {l : List ByteArray} (h : Cols3 l) (i : Nat) (hi : i ≤ l.length) : ∀ k j : Nat, k < i → j < 3 → bt (Jn l i) ((3 * k + j : Nat) : Int) = bt (colAt l k) (j : Int) := by
  induction i with
  | zero => intro k j hk; omega
  | succ i ih =>
    intro k j hk hj
    have hs := Jn_size h i (by omega)
    rw [Jn_succ l i (by omega)]
    by_cases e : k = i
    · subst e
      rw [show 3 * k + j = (Jn l k).size + j by omega, bt_append_right]
    · rw [bt_append_left _ _ _ (by omega), ih (by omega) k j (by omega) hj]
theorem bt_J {l : List ByteArray} (h : Cols3 l) (k j : Nat) (hk : k < l.length) (hj : j < 3) : bt (J l) ((3 * k + j : Nat) : Int) = bt (colAt l k) (j : Int) := by
  rw [← Jn_all]; exact bt_Jn h _ (Nat.le_refl _) k j hk hj

/-- Such columns, of a text of such a size: what is behind are noughts. -/
structure TextOk (l : List ByteArray) (n : Int) : Prop where
  par : ParOk l
  lo : 3 * ((l.length : Int) - 1) + 1 ≤ n
  hi : n ≤ 3 * (l.length : Int)
  nul : ∀ i : Nat, n ≤ (i : Int) → i < 3 * l.length → bt (J l) (i : Int) = 0
open Classical in
noncomputable def textR (l : List ByteArray) (n : Int) : ByteArray × Bool := if TextOk l n then ((J l).extract 0 n.toNat, true) else ((⟨#[]⟩ : ByteArray), false)
theorem textR_ok {l : List ByteArray} {n : Int} (h : TextOk l n) : textR l n = ((J l).extract 0 n.toNat, true) := by unfold textR; rw [if_pos h]
theorem textR_no {l : List ByteArray} {n : Int} (h : ¬ TextOk l n) : textR l n = ((⟨#[]⟩ : ByteArray), false) := by unfold textR; rw [if_neg h]

/-! ### strings.Trim -/
theorem trim_nil (l : List UInt8) : Lib.trimB l 0 = [] ↔ ∀ x ∈ l, x = 0 := by
  have key : ∀ m : List UInt8, m.dropWhile (· == (0 : UInt8)) = [] ↔ ∀ x ∈ m, x = 0 := by
    intro m
    induction m with
    | nil => simp
    | cons y m ih =>
      by_cases h : y = 0
      · subst h
        rw [List.dropWhile_cons_of_pos (by rfl), ih]
        simp
      · rw [List.dropWhile_cons_of_neg (by simpa using h)]
        simp [h]
  constructor
  · intro h
    unfold Lib.trimB Lib.trimLeftB at h
    rw [key] at h
    unfold Lib.trimRightB at h
    have hd : l.reverse.dropWhile (· == (0 : UInt8)) = [] := by
      cases e : l.reverse.dropWhile (· == (0 : UInt8)) with
      | nil => rfl
      | cons y ys =>
        have h1 : (y == (0 : UInt8)) = false := by
          have := List.head?_dropWhile_not (· == (0 : UInt8)) l.reverse
          rw [e] at this
          simpa using this
        have h2 := h y (by rw [e]; simp)
        rw [h2] at h1
        cases h1
    rw [key] at hd
    intro x hx
    exact hd x (List.mem_reverse.2 hx)
  · intro h
    unfold Lib.trimB Lib.trimLeftB
    rw [key]
    intro x hx
    unfold Lib.trimRightB at hx
    exact h x (List.mem_reverse.1 ((List.dropWhile_suffix _).subset (List.mem_reverse.1 hx)))
theorem trim_eq (s : ByteArray) (h : s.size ≤ 1000) : ∃ t, strings_Trim.f s (⟨#[0]⟩ : ByteArray) = some t ∧ (t.toList = ([] : List UInt8) ↔ ∀ i : Nat, i < s.size → bt s (i : Int) = 0) := by
  refine ⟨⟨(Lib.trimB s.data.toList 0).toArray⟩, ?_, ?_⟩
  · unfold strings_Trim.f
    rw [if_pos ⟨by omega, rfl⟩]
  · have e : (⟨(Lib.trimB s.data.toList 0).toArray⟩ : ByteArray).toList = Lib.trimB s.data.toList 0 := by rw [ByteArray.toList_eq]
    rw [e, trim_nil]
    constructor
    · intro h i hi
      have hi' : i < s.data.toList.length := by simpa using hi
      rw [bt_list]
      simp only [List.getD, List.getElem?_eq_getElem hi', Option.getD_some]
      rw [h _ (List.getElem_mem hi')]
      rfl
    · intro h x hx
      obtain ⟨i, hi, rfl⟩ := List.getElem_of_mem hx
      have := h i (by simpa using hi)
      rw [bt_list] at this
      simp only [List.getD, List.getElem?_eq_getElem hi, Option.getD_some] at this
      exact UInt8.toNat_inj.1 (by simpa using this)

/-! ### the program's -/
theorem implText_j0 (l : List ByteArray) (n : Int) (hok : ParOk l) (hlo : 3 * ((l.length : Int) - 1) + 1 ≤ n) (hhi : n ≤ 3 * (l.length : Int)) : Ev (fun k => impl_TextOf.j0 k l n false) (textR l n) := by
  have h1 := hok.lo
  have h3 := hok.hi
  have hz := J_size hok.cols3
  have hj := join_eq l h3 (by omega)
  obtain ⟨m, rfl⟩ := Int.eq_ofNat_of_zero_le (show 0 ≤ n by omega)
  have hzz : ((J l).extract m (J l).size).size = (J l).size - m := size_extract _ _ _ (Nat.le_refl _)
  obtain ⟨t, ht, hnil⟩ := trim_eq ((J l).extract m (J l).size) (by omega)
  have hiff : t.toList = ([] : List UInt8) ↔ TextOk l (m : Int) := by
    rw [hnil]
    constructor
    · intro h
      refine ⟨hok, hlo, hhi, fun i hi1 hi2 => ?_⟩
      obtain ⟨d, rfl⟩ : ∃ d, i = m + d := ⟨i - m, by omega⟩
      have := h d (by omega)
      rwa [bt_extract (J l) m _ d (Nat.le_refl _) (by omega)] at this
    · intro h i hi
      rw [bt_extract (J l) m _ i (Nat.le_refl _) (by omega)]
      exact h.nul (m + i) (by omega) (by omega)
  refine Ev.next ?_
  simp only [impl_TextOf.j0, Int.toNat_natCast]
  refine Ev.neg (by decide) (Ev.take hj (Ev.pos (by omega) (Ev.pos (by omega) (Ev.take hj (Ev.pos (by omega) (Ev.take ht ?_))))))
  by_cases h : TextOk l (m : Int)
  · rw [textR_ok h]
    exact Ev.pos (hiff.2 h) (Ev.ret (by rw [Int.toNat_natCast]))
  · rw [textR_no h]
    exact Ev.neg (fun x => h (hiff.1 x)) (Ev.ret rfl)
theorem implText_no (l : List ByteArray) (n : Int) (h : ¬ TextOk l n) : Ev (fun k => impl_TextOf.j0 k l n true) (textR l n) := by
  rw [textR_no h]
  refine Ev.next ?_
  simp only [impl_TextOf.j0]
  exact Ev.pos trivial (Ev.ret rfl)
theorem columns_eq (m : Nat) (hm : m ≤ 9) : impl_columns.f (m : Int) = some (((m + 2) / 3 : Nat) : Int) := by
  have e1 : wrap64 ((m : Int) + 3) = (m : Int) + 3 := wrap_ok (by omega)
  have e2 : wrap64 ((m : Int) + 3 - 1) = ((m + 2 : Nat) : Int) := by rw [wrap_ok (by omega)]; omega
  have e3 : wrap64 (((m + 2) / 3 : Nat) : Int) = (((m + 2) / 3 : Nat) : Int) := wrap_ok (by omega)
  unfold impl_columns.f
  rw [e1, e2, show Int.tdiv ((m + 2 : Nat) : Int) 3 = (((m + 2) / 3 : Nat) : Int) from rfl, e3]
open Classical in
theorem implText_ev (l : List ByteArray) (hl : l.length ≤ 1048576) (n : Int) : Ev (fun k => impl_TextOf.f k l n) (textR l n) := by
  unfold impl_TextOf.f
  by_cases c1 : (l.length : Int) < 1
  · exact Ev.pos c1 (implText_no l n fun h => by have := h.par.lo; omega)
  · by_cases c2 : (l.length : Int) > 3
    · exact Ev.neg c1 (Ev.pos c2 (implText_no l n fun h => by have := h.par.hi; omega))
    · by_cases c3 : n < 1
      · exact Ev.neg c1 (Ev.neg c2 (Ev.pos c3 (implText_no l n fun h => by have := h.lo; omega)))
      · by_cases c4 : n > 9
        · exact Ev.neg c1 (Ev.neg c2 (Ev.neg c3 (Ev.pos c4 (implText_no l n fun h => by have := h.hi; omega))))
        · obtain ⟨m, rfl⟩ := Int.eq_ofNat_of_zero_le (show 0 ≤ n by omega)
          refine Ev.neg c1 (Ev.neg c2 (Ev.neg c3 (Ev.neg c4 (Ev.take (columns_eq m (by omega)) ?_))))
          by_cases c5 : (((m + 2) / 3 : Nat) : Int) = (l.length : Int)
          · refine Ev.pos c5 (Ev.bind (implAll_ev l (-1) (by omega)) ?_)
            by_cases c6 : Others3 l (-1)
            · have hok : ParOk l := ⟨by omega, by omega, fun k hk => c6 k hk (by omega)⟩
              rw [decide_eq_true c6]
              exact implText_j0 l (m : Int) hok (by omega) (by omega)
            · rw [decide_eq_false c6]
              exact implText_no l (m : Int) fun h => c6 (h.par.cols3.others _)
          · exact Ev.neg c5 (implText_no l (m : Int) fun h => c5 (by have := h.lo; have := h.hi; have := h.par.lo; omega))

/-! ### the reference's -/
theorem specText_l1 (l : List ByteArray) (m : Nat) (hok : ParOk l) (hlo : 3 * ((l.length : Int) - 1) + 1 ≤ m) (hhi : (m : Int) ≤ 3 * (l.length : Int)) (d : Nat) : ∀ i : Nat, i + d = 3 * l.length → m ≤ i → (∀ j : Nat, m ≤ j → j < i → bt (J l) (j : Int) = 0) →
    Ev (fun k => spec_TextOf.l1 k (m : Int) (J l) (i : Int)) (textR l (m : Int)) := by
  have hz := J_size hok.cols3
  have h3 := hok.hi
  induction d with
  | zero =>
    intro i hi hm hj
    have hT : TextOk l (m : Int) := ⟨hok, hlo, hhi, fun j h1 h2 => hj j (by omega) (by omega)⟩
    rw [textR_ok hT]
    refine Ev.next ?_
    simp only [spec_TextOf.l1]
    exact Ev.neg (by omega) (Ev.pos (by omega) (Ev.pos (by omega) (Ev.ret rfl)))
  | succ d ih =>
    intro i hi hm hj
    have e : wrap64 ((i : Int) + 1) = ((i + 1 : Nat) : Int) := by rw [wrap_ok (by omega)]; omega
    by_cases hb : bt (J l) (i : Int) = 0
    · have hih := ih (i + 1) (by omega) (by omega) (fun j h1 h2 => by
        by_cases e : j = i
        · rw [e]; exact hb
        · exact hj j h1 (by omega))
      refine Ev.next ?_
      simp only [spec_TextOf.l1, e]
      clear e
      exact Ev.pos (by omega) (Ev.pos (by omega) (Ev.pos hb hih))
    · rw [textR_no fun h => hb (h.nul i (by omega) (by omega))]
      refine Ev.next ?_
      simp only [spec_TextOf.l1]
      exact Ev.pos (by omega) (Ev.pos (by omega) (Ev.neg hb (Ev.ret rfl)))
theorem specText_l0 (l : List ByteArray) (m : Nat) (hok : ParOk l) (hlo : 3 * ((l.length : Int) - 1) + 1 ≤ m) (hhi : (m : Int) ≤ 3 * (l.length : Int)) (d : Nat) : ∀ i : Nat, i + d = l.length →
    Ev (fun k => spec_TextOf.l0 k l (m : Int) (Jn l i) (i : Int)) (textR l (m : Int)) := by
  have hz := J_size hok.cols3
  have h3 := hok.hi
  induction d with
  | zero =>
    intro i hi
    obtain rfl : i = l.length := by omega
    refine Ev.next ?_
    simp only [spec_TextOf.l0, Jn_all]
    exact Ev.neg (by omega) (specText_l1 l m hok hlo hhi (3 * l.length - m) m (by omega) (Nat.le_refl _) (fun j h1 h2 => by omega))
  | succ d ih =>
    intro i hi
    have e : wrap64 ((i : Int) + 1) = ((i + 1 : Nat) : Int) := by rw [wrap_ok (by omega)]; omega
    have hih := ih (i + 1) (by omega)
    have hs := Jn_size hok.cols3 i (by omega)
    have hc := hok.cols3 i (by omega)
    rw [Jn_succ l i (by omega)] at hih
    refine Ev.next ?_
    simp only [spec_TextOf.l0, e, rdOf_nat]
    clear e
    exact Ev.pos (by omega) (Ev.pos (by omega) (Ev.pos (by omega) hih))
theorem specText_no (l : List ByteArray) (n : Int) (h : ¬ TextOk l n) : Ev (fun k => spec_TextOf.j0 k l n true) (textR l n) := by
  rw [textR_no h]
  refine Ev.next ?_
  simp only [spec_TextOf.j0]
  exact Ev.pos trivial (Ev.ret rfl)
open Classical in
theorem specText_ev (l : List ByteArray) (hl : l.length ≤ 1048576) (n : Int) : Ev (fun k => spec_TextOf.f k l n) (textR l n) := by
  unfold spec_TextOf.f
  refine Ev.bind (specCols_ev l (by omega)) ?_
  by_cases h : ParOk l
  · have h1 := h.lo
    have h3 := h.hi
    have e1 : wrap64 ((l.length : Int) - 1) = (l.length : Int) - 1 := wrap_ok (by omega)
    have e2 : wrap64 (3 * ((l.length : Int) - 1)) = 3 * ((l.length : Int) - 1) := wrap_ok (by omega)
    have e3 : wrap64 (3 * ((l.length : Int) - 1) + 1) = 3 * ((l.length : Int) - 1) + 1 := wrap_ok (by omega)
    have e4 : wrap64 (3 * (l.length : Int)) = 3 * (l.length : Int) := wrap_ok (by omega)
    rw [decide_eq_true h]
    simp only [e1, e2, e3, e4]
    clear e1 e2 e3 e4
    refine Ev.pos trivial (Ev.take (l6In_eq _ _ _) ?_)
    by_cases hr : 3 * ((l.length : Int) - 1) + 1 ≤ n ∧ n ≤ 3 * (l.length : Int)
    · rw [decide_eq_true hr]
      obtain ⟨m, rfl⟩ := Int.eq_ofNat_of_zero_le (show 0 ≤ n by omega)
      refine Ev.next ?_
      simp only [spec_TextOf.j0]
      exact Ev.neg (by decide) (specText_l0 l m h hr.1 hr.2 l.length 0 (Nat.zero_add _))
    · rw [decide_eq_false hr]
      exact specText_no l n fun x => hr ⟨x.lo, x.hi⟩
  · rw [decide_eq_false h]
    exact Ev.neg (by decide) (specText_no l n fun x => h x.par)
end Go.Proofs.YtoelfgkigbfieaaDoor.Pure
