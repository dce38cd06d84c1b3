/- Proved: what the program's and the reference's ColsOf come to; a text's columns give it back, and columns of a text are its columns. Conditions: none. -/
import Derived.Test.YtoelfgkigbfieaaDoorTText
import Derived.Test.YtoelfgkigbfieaaDoorPrint11
import Derived.Test.YtoelfgkigbfieaaDoorPrint13
namespace Go.Proofs.YtoelfgkigbfieaaDoor.Pure
open Go.RowKit Go.Proofs.YtoelfgkigbfieaaDoor.Print Go.Proofs.YtoelfgkigbfieaaDoorW.PrintWords Go.Proofs.YtoelfgkigbfieaaDoorW.PrintLast
set_option linter.unusedSimpArgs false

theorem specSec_cut (s : ByteArray) (h : 3 ≤ s.size) : ∃ t : ByteArray, Ev (fun k => spec_l1Sec.l0 k s) t ∧ t.size = 3 ∧ ∀ i : Nat, i < 3 → bt t (i : Int) = bt s (i : Int) := by
  refine ⟨s.extract 0 3, Ev.next ?_, by rw [size_extract _ _ _ h], fun i hi => ?_⟩
  · simp only [spec_l1Sec.l0]
    exact Ev.neg (by omega) (Ev.pos (by omega) (Ev.pos (by omega) (Ev.ret rfl)))
  · rw [bt_extract s 0 3 i h (by omega), Nat.zero_add]
theorem specSec_pad (d : Nat) : ∀ s : ByteArray, s.size + d = 3 → ∃ t : ByteArray, Ev (fun k => spec_l1Sec.l0 k s) t ∧ t.size = 3 ∧ ∀ i : Nat, i < 3 → bt t (i : Int) = bt s (i : Int) := by
  induction d with
  | zero => intro s hs; exact specSec_cut s (by omega)
  | succ d ih =>
    intro s hs
    have hz : (s ++ (⟨#[0]⟩ : ByteArray)).size = s.size + 1 := by rw [ByteArray.size_append]; rfl
    obtain ⟨t, h1, h2, h3⟩ := ih (s ++ (⟨#[0]⟩ : ByteArray)) (by omega)
    refine ⟨t, Ev.next ?_, h2, fun i hi => ?_⟩
    · simp only [spec_l1Sec.l0]
      exact Ev.pos (by omega) (Ev.pos (by omega) h1)
    · rw [h3 i hi]
      by_cases hi : i < s.size
      · exact bt_append_left _ _ _ hi
      · rw [bt_over s i (by omega)]
        obtain ⟨j, rfl⟩ : ∃ j, i = s.size + j := ⟨i - s.size, by omega⟩
        rw [bt_append_right]
        rw [bt_list]
        match j with
        | 0 => rfl
        | j + 1 => rfl
/-- Cut off, or with noughts behind. -/
theorem specSec_ev (s : ByteArray) : ∃ t : ByteArray, Ev (fun k => spec_l1Sec.f k s) t ∧ t.size = 3 ∧ ∀ i : Nat, i < 3 → bt t (i : Int) = bt s (i : Int) := by
  unfold spec_l1Sec.f
  by_cases h : 3 ≤ s.size
  · exact specSec_cut s h
  · exact specSec_pad (3 - s.size) s (by omega)
/-! ### columns -/
def col (s : ByteArray) (k : Nat) : ByteArray := strOfNums [bt s ((3 * k : Nat) : Int), bt s ((3 * k + 1 : Nat) : Int), bt s ((3 * k + 2 : Nat) : Int)]
theorem col_size (s : ByteArray) (k : Nat) : (col s k).size = 3 := by rw [col, strOfNums_size]; rfl
theorem bt_byte (s : ByteArray) (i : Int) : 0 ≤ bt s i ∧ bt s i < 256 := by have := bt_range s i; omega
theorem col_bt (s : ByteArray) (k i : Nat) (hi : i < 3) : bt (col s k) (i : Int) = bt s ((3 * k + i : Nat) : Int) := by
  have hb : ∀ x ∈ [bt s ((3 * k : Nat) : Int), bt s ((3 * k + 1 : Nat) : Int), bt s ((3 * k + 2 : Nat) : Int)], 0 ≤ x ∧ x < 256 := by
    intro x hx
    simp only [List.mem_cons, List.not_mem_nil, or_false] at hx
    rcases hx with rfl | rfl | rfl <;> exact bt_byte _ _
  rw [col, bt_strOfNums _ hb]
  match i with
  | 0 => rfl
  | 1 => rfl
  | 2 => rfl
theorem col_of {s t : ByteArray} {k : Nat} (h3 : t.size = 3) (h : ∀ i : Nat, i < 3 → bt t (i : Int) = bt s ((3 * k + i : Nat) : Int)) : t = col s k :=
  text_ext (by rw [h3, col_size]) fun i hi => by rw [col_bt s k i (by omega)]; exact h i (by omega)
def cols (s : ByteArray) (n : Nat) : List ByteArray := (List.range n).map (col s)
theorem cols_succ (s : ByteArray) (n : Nat) : cols s (n + 1) = cols s n ++ [col s n] := by simp [cols, List.range_succ]
theorem cols_len (s : ByteArray) (n : Nat) : (cols s n).length = n := by simp [cols]
def many (s : ByteArray) : Nat := (s.size + 2) / 3
theorem specCols_l0 (s : ByteArray) (hs : s.size ≤ 9) (d : Nat) : ∀ k : Nat, k + d = many s → Ev (fun n => spec_ColsOf.l0 n s (cols s k) ((3 * k : Nat) : Int)) (cols s (many s)) := by
  induction d with
  | zero =>
    intro k hk
    have hm : many s = (s.size + 2) / 3 := rfl
    obtain rfl : k = many s := by omega
    refine Ev.next ?_
    simp only [spec_ColsOf.l0]
    exact Ev.neg (by omega) (Ev.ret rfl)
  | succ d ih =>
    intro k hk
    have hm : many s = (s.size + 2) / 3 := rfl
    have hlt : 3 * k < s.size := by omega
    have e : wrap64 (((3 * k : Nat) : Int) + 3) = ((3 * (k + 1) : Nat) : Int) := by rw [wrap_ok (by omega)]; omega
    obtain ⟨t, h1, h2, h3⟩ := specSec_ev (s.extract (3 * k) s.size)
    have ht : t = col s k := col_of h2 fun i hi => by
      rw [h3 i hi]
      by_cases hh : 3 * k + i < s.size
      · exact bt_extract s (3 * k) s.size i (Nat.le_refl _) hh
      · rw [bt_over s (3 * k + i) (by omega), bt_over _ i (by rw [size_extract _ _ _ (Nat.le_refl _)]; omega)]
    have hih := ih (k + 1) (by omega)
    rw [cols_succ, ← ht] at hih
    have hl := cols_len s k
    refine Ev.next ?_
    simp only [spec_ColsOf.l0, e, Int.toNat_natCast]
    clear e
    exact Ev.pos (by omega) (Ev.pos (by omega) (Ev.pos (by omega) (Ev.bind h1 (Ev.pos (by omega) hih))))
theorem repeat0 : ∀ c : Nat, Lib.repeatL [0] c = List.replicate c (0 : UInt8)
  | 0 => rfl
  | c + 1 => by rw [Lib.repeatL, repeat0 c, List.replicate_succ]; rfl
theorem zeros_eq (c : Nat) (hc : c ≤ 1048576) : ∃ z, strings_Repeat.f (⟨#[0]⟩ : ByteArray) (c : Int) = some z ∧ z.size = c ∧ ∀ i : Nat, bt z (i : Int) = 0 := by
  refine ⟨⟨(Lib.repeatL [0] c).toArray⟩, ?_, ?_, fun i => ?_⟩
  · unfold strings_Repeat.f
    rw [if_pos ⟨by omega, by omega, by decide⟩, Int.toNat_natCast]
  · show (Lib.repeatL [0] c).toArray.size = c
    rw [repeat0]
    simp
  · rw [bt_list]
    show (((Lib.repeatL [0] c).toArray.toList.getD i 0).toNat : Int) = 0
    rw [repeat0]
    simp only [List.getD, List.getElem?_replicate]
    split <;> rfl
theorem implCols_l0 (s pd : ByteArray) (hs : s.size ≤ 9) (hp : pd.size = 3 * many s) (hb : ∀ i : Nat, i < 3 * many s → bt pd (i : Int) = bt s (i : Int)) (d : Nat) : ∀ k : Nat, k + d = many s → Ev (fun n => impl_ColsOf.l0 n pd (cols s k) (many s : Int) (k : Int)) (cols s (many s)) := by
  have hm : many s = (s.size + 2) / 3 := rfl
  induction d with
  | zero =>
    intro k hk
    obtain rfl : k = many s := by omega
    refine Ev.next ?_
    simp only [impl_ColsOf.l0]
    exact Ev.neg (by omega) (Ev.ret rfl)
  | succ d ih =>
    intro k hk
    have e1 : wrap64 ((k : Int) + 1) = ((k + 1 : Nat) : Int) := by rw [wrap_ok (by omega)]; omega
    have e2 : wrap64 ((k : Int) * 3) = ((3 * k : Nat) : Int) := by rw [wrap_ok (by omega)]; omega
    have e3 : wrap64 (((k + 1 : Nat) : Int) * 3) = ((3 * k + 3 : Nat) : Int) := by rw [wrap_ok (by omega)]; omega
    have ht : pd.extract (3 * k) (3 * k + 3) = col s k := col_of (by rw [size_extract _ _ _ (by omega)]; omega) fun i hi => by
      rw [bt_extract pd (3 * k) (3 * k + 3) i (by omega) (by omega)]
      exact hb (3 * k + i) (by omega)
    have hih := ih (k + 1) (by omega)
    rw [cols_succ, ← ht] at hih
    have hl := cols_len s k
    refine Ev.next ?_
    simp only [impl_ColsOf.l0, e1, e2, e3, Int.toNat_natCast]
    clear e1 e2 e3
    exact Ev.pos (by omega) (Ev.pos (by omega) (Ev.pos (by omega) (Ev.pos (by omega) (Ev.pos (by omega) hih))))
def R (s : ByteArray) : List ByteArray := if 1 ≤ s.size ∧ s.size ≤ 9 then cols s (many s) else []
theorem R_len (s : ByteArray) : (R s).length ≤ 3 := by
  unfold R
  split
  · rw [cols_len]
    have hm : many s = (s.size + 2) / 3 := rfl
    omega
  · simp
theorem specCols_R (s : ByteArray) : Ev (fun k => spec_ColsOf.f k s) (R s) := by
  unfold spec_ColsOf.f R
  refine Ev.take rfl (Ev.take (l6In_eq _ _ _) ?_)
  by_cases h : 1 ≤ s.size ∧ s.size ≤ 9
  · rw [if_pos h]
    exact Ev.pos (decide_eq_true (by omega)) (specCols_l0 s h.2 (many s) 0 (Nat.zero_add _))
  · rw [if_neg h]
    exact Ev.neg (by rw [decide_eq_true_iff]; omega) (Ev.ret rfl)
theorem implCols_R (s : ByteArray) : Ev (fun k => impl_ColsOf.f k s) (R s) := by
  have hl : s.toList.length = s.size := by simp [ByteArray.toList_eq]
  unfold impl_ColsOf.f R
  by_cases h0 : s.size = 0
  · rw [if_neg (by omega)]
    refine Ev.pos (List.eq_nil_of_length_eq_zero (by omega)) (Ev.next ?_)
    simp only [impl_ColsOf.j0]
    exact Ev.pos trivial (Ev.ret rfl)
  · refine Ev.neg (fun e => by rw [e] at hl; simp at hl; omega) (Ev.next ?_)
    simp only [impl_ColsOf.j0]
    by_cases h9 : s.size ≤ 9
    · rw [if_pos ⟨by omega, h9⟩]
      have hm : many s = (s.size + 2) / 3 := rfl
      have e1 : wrap64 ((s.size : Int) + 3) = (s.size : Int) + 3 := wrap_ok (by omega)
      have e2 : wrap64 ((s.size : Int) + 3 - 1) = ((s.size + 2 : Nat) : Int) := by rw [wrap_ok (by omega)]; omega
      have e3 : wrap64 (((s.size + 2) / 3 : Nat) : Int) = ((many s : Nat) : Int) := by rw [wrap_ok (by omega), hm]
      have hc : impl_columns.f (s.size : Int) = some ((many s : Nat) : Int) := by
        unfold impl_columns.f
        rw [e1, e2, show Int.tdiv ((s.size + 2 : Nat) : Int) 3 = (((s.size + 2) / 3 : Nat) : Int) from rfl, e3]
      have e4 : wrap64 (((many s : Nat) : Int) * 3) = ((3 * many s : Nat) : Int) := by rw [wrap_ok (by omega)]; omega
      have e5 : wrap64 (((3 * many s : Nat) : Int) - (s.size : Int)) = ((3 * many s - s.size : Nat) : Int) := by rw [wrap_ok (by omega)]; omega
      obtain ⟨z, hz1, hz2, hz3⟩ := zeros_eq (3 * many s - s.size) (by omega)
      clear e1 e2 e3
      refine Ev.neg (by rw [decide_eq_true_iff]; omega) (Ev.take hc (Ev.take (a := z) (by rw [e4, e5]; exact hz1) ?_))
      clear e4 e5
      refine Ev.pos (by omega) (implCols_l0 s (s ++ z) h9 (by rw [ByteArray.size_append]; omega) (fun i hi => ?_) (many s) 0 (Nat.zero_add _))
      by_cases hh : i < s.size
      · exact bt_append_left s z i hh
      · obtain ⟨j, rfl⟩ : ∃ j, i = s.size + j := ⟨i - s.size, by omega⟩
        rw [bt_append_right, hz3, bt_over s _ (by omega)]
    · rw [if_neg (by omega)]
      exact Ev.pos (decide_eq_true (by omega)) (Ev.ret rfl)

theorem R_length {s : ByteArray} (h : 1 ≤ s.size ∧ s.size ≤ 9) : 1 ≤ (R s).length ∧ (R s).length ≤ 3 ∧ (R s).length = many s := by
  have hm : many s = (s.size + 2) / 3 := rfl
  unfold R
  rw [if_pos h, cols_len]
  omega
theorem colAt_R {s : ByteArray} (h : 1 ≤ s.size ∧ s.size ≤ 9) (k : Nat) (hk : k < (R s).length) : colAt (R s) k = col s k := by
  have hl := R_length h
  unfold R at *
  rw [if_pos h] at *
  rw [cols_len] at hk
  simp [colAt, cols, List.getD, hk]
theorem R_par {s : ByteArray} (h : 1 ≤ s.size ∧ s.size ≤ 9) : ParOk (R s) := by
  have hl := R_length h
  exact ⟨hl.1, hl.2.1, fun k hk => by rw [colAt_R h k hk, col_size]⟩
theorem bt_JR {s : ByteArray} (h : 1 ≤ s.size ∧ s.size ≤ 9) (i : Nat) (hi : i < 3 * (R s).length) : bt (J (R s)) (i : Int) = bt s (i : Int) := by
  have e : i = 3 * (i / 3) + i % 3 := by omega
  have hk : i / 3 < (R s).length := by omega
  have h1 := bt_J (R_par h).cols3 (i / 3) (i % 3) hk (by omega)
  rw [colAt_R h _ hk, col_bt _ _ _ (by omega), ← e] at h1
  exact h1
theorem textOk_R {s : ByteArray} (h : 1 ≤ s.size ∧ s.size ≤ 9) : TextOk (R s) (s.size : Int) := by
  have hl := R_length h
  have hm : many s = (s.size + 2) / 3 := rfl
  refine ⟨R_par h, by omega, by omega, fun i h1 h2 => ?_⟩
  rw [bt_JR h i h2, bt_over s i (by omega)]
theorem textR_R {s : ByteArray} (h : 1 ≤ s.size ∧ s.size ≤ 9) : textR (R s) (s.size : Int) = (s, true) := by
  have hl := R_length h
  have hm : many s = (s.size + 2) / 3 := rfl
  have hz := J_size (R_par h).cols3
  rw [textR_ok (textOk_R h), Int.toNat_natCast]
  have e : (J (R s)).extract 0 s.size = s := by
    have hs : ((J (R s)).extract 0 s.size).size = s.size := by rw [size_extract _ _ _ (by omega)]; omega
    refine text_ext hs fun i hi => ?_
    rw [bt_extract _ 0 _ i (by omega) (by omega), Nat.zero_add, bt_JR h i (by omega)]
  rw [e]
theorem R_text {l : List ByteArray} {m : Nat} (h : TextOk l (m : Int)) : R ((J l).extract 0 m) = l ∧ ((J l).extract 0 m).size = m := by
  have h1 := h.par.lo
  have h3 := h.par.hi
  have hlo := h.lo
  have hhi := h.hi
  have hz := J_size h.par.cols3
  have hs : ((J l).extract 0 m).size = m := by rw [size_extract _ _ _ (by omega)]; omega
  obtain ⟨s, hS⟩ : ∃ s, s = (J l).extract 0 m := ⟨_, rfl⟩
  rw [← hS] at hs ⊢
  have hm : many s = (s.size + 2) / 3 := rfl
  have hb : ∀ i : Nat, i < 3 * l.length → bt s (i : Int) = bt (J l) (i : Int) := by
    intro i hi
    by_cases hh : i < m
    · rw [hS, bt_extract _ 0 _ i (by omega) (by omega), Nat.zero_add]
    · rw [bt_over s i (by omega), h.nul i (by omega) hi]
  refine ⟨?_, hs⟩
  unfold R
  rw [if_pos ⟨by omega, by omega⟩]
  refine List.ext_getElem (by rw [cols_len]; omega) fun i hi1 hi2 => ?_
  have e : colAt l i = l[i] := by simp [colAt, List.getD, hi2]
  rw [← e]
  simp only [cols, List.getElem_map, List.getElem_range]
  refine (col_of (h.par.cols3 i hi2) fun j hj => ?_).symm
  rw [hb (3 * i + j) (by omega), bt_J h.par.cols3 i j hi2 hj]
theorem lpaTexts_l0 (l : List ByteArray) (hl : l.length ≤ 1048576) (d : Nat) : ∀ i : Nat, i + d = l.length → Ev (fun k => laws_lpaTexts.l0 k l l (i : Int)) true := by
  induction d with
  | zero =>
    intro i hi
    refine Ev.next ?_
    simp only [laws_lpaTexts.l0]
    exact Ev.neg (by omega) (Ev.ret rfl)
  | succ d ih =>
    intro i hi
    have e : wrap64 ((i : Int) + 1) = ((i + 1 : Nat) : Int) := by rw [wrap_ok (by omega)]; omega
    have hih := ih (i + 1) (by omega)
    refine Ev.next ?_
    simp only [laws_lpaTexts.l0, e]
    clear e
    exact Ev.pos (by omega) (Ev.pos (by omega) (Ev.pos (by omega) (Ev.pos trivial hih)))
theorem lpaTexts_ev (l : List ByteArray) (hl : l.length ≤ 1048576) : Ev (fun k => laws_lpaTexts.f k l l) true := by
  unfold laws_lpaTexts.f
  exact Ev.pos rfl (lpaTexts_l0 l hl _ 0 (Nat.zero_add _))
end Go.Proofs.YtoelfgkigbfieaaDoor.Pure
