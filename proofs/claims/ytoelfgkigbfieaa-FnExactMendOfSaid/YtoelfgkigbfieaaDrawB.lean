/- Proved: the reference's ColsOf, and what is drawn of columns. Conditions: those of the draws. -/
import Derived.Test.YtoelfgkigbfieaaCols
import Derived.Test.YtoelfgkigbfieaaPrint7
import Derived.Test.YtoelfgkigbfieaaPrint23
namespace Go.Proofs.Ytoelfgkigbfieaa.Pure
open Go.RowKit Go.Proofs.Ytoelfgkigbfieaa.Print Go.Proofs.YtoelfgkigbfieaaW.PrintWords

/-- Column k of a text. -/
def colK (s : ByteArray) (k : Nat) : ByteArray := strOfNums [bt s ((3 * k : Nat) : Int), bt s ((3 * k + 1 : Nat) : Int), bt s ((3 * k + 2 : Nat) : Int)]
theorem colK_size (s : ByteArray) (k : Nat) : (colK s k).size = 3 := by rw [colK, strOfNums_size]; rfl
theorem bt_colK (s : ByteArray) (k i : Nat) (hi : i < 3) : bt (colK s k) (i : Int) = bt s ((3 * k + i : Nat) : Int) := by
  rw [colK, bt_strOfNums]
  · match i, hi with
    | 0, _ => rfl
    | 1, _ => rfl
    | 2, _ => rfl
  · intro x hx
    simp only [List.mem_cons, List.not_mem_nil, or_false] at hx
    rcases hx with rfl | rfl | rfl <;> exact bt_bd _ _
def many (s : ByteArray) : Nat := (s.size + 2) / 3
def colsN (s : ByteArray) (n : Nat) : List ByteArray := (List.range n).map (colK s)
theorem colsN_succ (s : ByteArray) (n : Nat) : colsN s (n + 1) = colsN s n ++ [colK s n] := by simp [colsN, List.range_succ]
theorem colsN_length (s : ByteArray) (n : Nat) : (colsN s n).length = n := by simp [colsN]
theorem colAt_colsN (s : ByteArray) (n k : Nat) (h : k < n) : colAt (colsN s n) k = colK s k := by simp [colAt, colsN, List.getD, h]
def colsR (s : ByteArray) : List ByteArray := if 1 ≤ s.size ∧ s.size ≤ 9 then colsN s (many s) else []
theorem specColsOf_l0 (s : ByteArray) (hs : s.size ≤ 9) (d : Nat) : ∀ i : Nat, i + d = many s → Ev (fun k => spec_ColsOf.l0 k s (colsN s i) ((3 * i : Nat) : Int)) (colsN s (many s)) := by
  have hm : 3 * many s < s.size + 3 ∧ s.size ≤ 3 * many s := by unfold many; omega
  induction d with
  | zero =>
    intro i hi
    have hi' : i = many s := by omega
    refine Ev.next ?_
    simp only [spec_ColsOf.l0]
    exact Ev.neg (by omega) (Ev.ret (by rw [hi']))
  | succ d ih =>
    intro i hi
    have e : wrap64 (((3 * i : Nat) : Int) + 3) = ((3 * (i + 1) : Nat) : Int) := by rw [wrap_ok (by omega)]; omega
    have hih := ih (i + 1) (by omega)
    rw [colsN_succ] at hih
    have hl := colsN_length s i
    obtain ⟨t, h1, h2, h3⟩ := specSec_ev (s.extract (3 * i) s.size)
    have ht : t = colK s i := by
      apply text_ext
      · rw [h2, colK_size]
      · intro j hj
        rw [h3 j (by omega), bt_colK _ _ _ (by omega)]
        by_cases hj2 : 3 * i + j < s.size
        · rw [bt_extract s _ _ _ (Nat.le_refl _) hj2]
        · rw [bt_over s _ (by omega), bt_over _ j (by rw [size_extract _ _ _ (Nat.le_refl _)]; omega)]
    rw [ht] at h1
    refine Ev.next ?_
    simp only [spec_ColsOf.l0, e, Int.toNat_natCast]
    clear e
    exact Ev.pos (by omega) (Ev.pos (by omega) (Ev.pos (by omega) (Ev.bind h1 (Ev.pos (by omega) hih))))
theorem specColsOf_ev (s : ByteArray) : Ev (fun k => spec_ColsOf.f k s) (colsR s) := by
  unfold spec_ColsOf.f
  refine Ev.take rfl (Ev.take (l6In_eq _ _ _) ?_)
  by_cases h : 1 ≤ s.size ∧ s.size ≤ 9
  · unfold colsR
    rw [if_pos h]
    exact Ev.pos (by simp; omega) (specColsOf_l0 s h.2 _ 0 (Nat.zero_add _))
  · unfold colsR
    rw [if_neg h]
    exact Ev.neg (by simp; omega) (Ev.ret rfl)
theorem colsR_length {s : ByteArray} (h : 1 ≤ s.size ∧ s.size ≤ 9) : 1 ≤ (colsR s).length ∧ (colsR s).length ≤ 3 ∧ (colsR s).length = many s := by
  unfold colsR
  rw [if_pos h, colsN_length]
  unfold many
  omega

theorem l71Cols_j0 {b : List Int} (hb : Code b) (cols : List ByteArray) (h1 : 1 ≤ cols.length) (h3 : cols.length ≤ 3) (p : Int) (hp : 0 ≤ p ∧ p ≤ 100000000) :
    ∃ (r : List ByteArray) (q : Int), Ev (fun k => spec_l71Cols.j0 k cols b p) (r, q) ∧ 1 ≤ r.length ∧ r.length ≤ 6 ∧ p ≤ q ∧ q ≤ p + 20 := by
  obtain ⟨r1, e1, e1a, e1b, _⟩ := pick_ev hb p 16 (by omega) (by omega)
  by_cases c0 : r1 = 0
  · obtain ⟨r2, e2, e2a, e2b, _⟩ := pick_ev hb (p + 1) (cols.length : Int) (by omega) (by omega)
    have e2b := e2b (by omega)
    obtain ⟨t, q, e3, _, hq1, hq2⟩ := text_ev hb (p + 1 + 1) 4 (by omega) (by omega)
    refine ⟨cols.set r2.toNat t, q, Ev.next ?_, by simpa using h1, by simp; omega, by omega, by omega⟩
    simp only [spec_l71Cols.j0]
    exact Ev.bind e1 (Ev.pos c0 (Ev.bind e2 (Ev.bind e3 (Ev.pos e2a (Ev.pos e2b (Ev.ret rfl))))))
  · by_cases c1 : r1 = 1
    · refine ⟨cols ++ [(⟨#[97, 98, 99]⟩ : ByteArray), (⟨#[97, 98, 99]⟩ : ByteArray), (⟨#[97, 98, 99]⟩ : ByteArray)], p + 1, Ev.next ?_, by simp, by simp; omega, by omega, by omega⟩
      simp only [spec_l71Cols.j0]
      exact Ev.bind e1 (Ev.neg c0 (Ev.pos c1 (Ev.take rfl (Ev.pos (by simp; omega) (Ev.ret rfl)))))
    · refine ⟨cols, p + 1, Ev.next ?_, h1, by omega, by omega, by omega⟩
      simp only [spec_l71Cols.j0]
      exact Ev.bind e1 (Ev.neg c0 (Ev.neg c1 (Ev.ret rfl)))
theorem l71Cols_ev {b : List Int} (hb : Code b) (p : Int) (hp : 0 ≤ p ∧ p ≤ 1000000) :
    ∃ (r : List ByteArray) (q : Int), Ev (fun k => spec_l71Cols.f k b p) (r, q) ∧ 1 ≤ r.length ∧ r.length ≤ 6 ∧ p ≤ q ∧ q ≤ p + 50 := by
  obtain ⟨t, q, e1, ht, hq1, hq2⟩ := text_ev hb p 9 (by omega) (by omega)
  have hz : (t ++ (⟨#[97]⟩ : ByteArray)).size = t.size + 1 := by rw [ByteArray.size_append]; rfl
  by_cases h9 : t.size ≤ 8
  · have hl := colsR_length (s := t ++ (⟨#[97]⟩ : ByteArray)) (by omega)
    obtain ⟨r, q', e2, h1, h2, h3, h4⟩ := l71Cols_j0 hb _ hl.1 hl.2.1 q (by omega)
    refine ⟨r, q', ?_, h1, h2, by omega, by omega⟩
    unfold spec_l71Cols.f
    exact Ev.bind e1 (Ev.pos (by dsimp only; omega) (Ev.bind (specColsOf_ev _) (Ev.neg (by dsimp only; omega) e2)))
  · have hl0 : colsR (t ++ (⟨#[97]⟩ : ByteArray)) = [] := by unfold colsR; rw [if_neg (by omega)]
    have hl := colsR_length (s := (⟨#[97, 98, 99, 100, 101, 102]⟩ : ByteArray)) (by decide)
    obtain ⟨r, q', e2, h1, h2, h3, h4⟩ := l71Cols_j0 hb _ hl.1 hl.2.1 q (by omega)
    refine ⟨r, q', ?_, h1, h2, by omega, by omega⟩
    unfold spec_l71Cols.f
    exact Ev.bind e1 (Ev.pos (by dsimp only; omega) (Ev.bind (specColsOf_ev _) (Ev.pos (by rw [hl0]; rfl) (Ev.bind (specColsOf_ev _) e2))))
theorem drawPar_ev (l : List Int) (h : ∀ x ∈ l, (Lit.int .u8 x).wf = true) : ∃ cols : List ByteArray, Ev (fun k => spec_DrawParityOf.f k l) cols ∧ 1 ≤ cols.length ∧ cols.length ≤ 6 := by
  obtain ⟨b, hb, hc⟩ := open_ev l h
  obtain ⟨r, q, e1, h1, h2, _, _⟩ := l71Cols_ev hc 0 (by omega)
  refine ⟨r, ?_, h1, h2⟩
  unfold spec_DrawParityOf.f
  exact Ev.take hb (Ev.bind e1 (Ev.ret rfl))

theorem toList_nil {s : ByteArray} : s.toList = ([] : List UInt8) ↔ s.size = 0 := by
  rw [ByteArray.toList_eq]
  constructor
  · intro h
    have := congrArg List.length h
    simpa using this
  · intro h
    exact List.eq_nil_of_length_eq_zero (by simpa using h)
/-- What is asked of a parity first: it is empty just where there is none. -/
theorem parR_nil (cols : List ByteArray) : (parR cols).toList = ([] : List UInt8) ↔ ¬ ParOk cols := by
  rw [toList_nil]
  by_cases h : ParOk cols
  · rw [parR_ok h, pf_size h.cols3 _ (Nat.le_refl _)]
    simp [h]
  · rw [parR_no h]
    simp only [h, not_false_eq_true, iff_true]
    rfl
end Go.Proofs.Ytoelfgkigbfieaa.Pure
