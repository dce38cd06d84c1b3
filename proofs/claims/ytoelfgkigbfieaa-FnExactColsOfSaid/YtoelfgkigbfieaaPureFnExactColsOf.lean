/- Proved: the law FnExactColsOf answers true: the program's and the reference's columns are one list. Conditions: those of the statement's row alone. -/
import Derived.Test.YtoelfgkigbfieaaPrint6
import Derived.Test.YtoelfgkigbfieaaEv
namespace Go.Proofs.Ytoelfgkigbfieaa.Pure
open Go.RowKit Go.Proofs.Ytoelfgkigbfieaa.Print Go.Proofs.YtoelfgkigbfieaaW.PrintWords Go.Proofs.YtoelfgkigbfieaaW.PrintLast
set_option linter.unusedSimpArgs false

theorem Ev.next {α : Type} {g : Nat → Option α} {r : α} (k : Ev (fun n => g (n + 1)) r) : Ev g r := Ev.step (fun _ => rfl) k
theorem rdOf_n (l : List ByteArray) (i : Nat) : rdOf ByteArray.empty l (i : Int) = l.getD i ByteArray.empty := by simp [rdOf]
/-- A mark's text is told, whatever the number. -/
theorem markText_l0 : ∀ (n m : Nat), m ≤ n → ∀ x3 : ByteArray, x3.size + m ≤ 4611686018427387904 → m ≤ 4611686018427387904 → ∃ t, Ev (fun k => laws_markText.l0 k (m : Int) x3) t := by
  intro n
  induction n with
  | zero =>
    intro m hm x3 hx _
    refine ⟨(⟨#[109]⟩ : ByteArray) ++ x3, Ev.next ?_⟩
    simp only [laws_markText.l0]
    exact Ev.neg (by omega) (Ev.pos (by omega) (Ev.ret rfl))
  | succ n ih =>
    intro m hm x3 hx hb
    by_cases h0 : m = 0
    · refine ⟨(⟨#[109]⟩ : ByteArray) ++ x3, Ev.next ?_⟩
      simp only [laws_markText.l0]
      exact Ev.neg (by omega) (Ev.pos (by omega) (Ev.ret rfl))
    · have hs := strOfNums_size [(wrap64 (48 + (Int.tmod (m : Int) 10))) % 256]
      simp only [List.length_singleton] at hs
      have hq : wrap64 (Int.tdiv (m : Int) 10) = ((m / 10 : Nat) : Int) := by
        rw [show Int.tdiv (m : Int) 10 = ((m / 10 : Nat) : Int) from rfl, wrap_ok (by omega)]
      obtain ⟨t, ht⟩ := ih (m / 10) (by omega) (strOfNums [(wrap64 (48 + (Int.tmod (m : Int) 10))) % 256] ++ x3) (by rw [ByteArray.size_append]; omega) (by omega)
      refine ⟨t, Ev.next ?_⟩
      simp only [laws_markText.l0, Option.bind_some, hq]
      clear hq
      exact Ev.pos (by omega) (Ev.pos (by omega) ht)
theorem markText_some (m : Nat) (hm : m ≤ 4611686018427387904) : ∃ t, Ev (fun k => laws_markText.f k (m : Int)) t := by
  unfold laws_markText.f
  by_cases h : (m : Int) ≤ 0
  · exact ⟨_, Ev.pos h (Ev.ret rfl)⟩
  · obtain ⟨t, ht⟩ := markText_l0 m m (Nat.le_refl _) (⟨#[]⟩ : ByteArray) (by simp [ByteArray.size]; omega) hm
    exact ⟨t, Ev.neg h ht⟩
open Classical in
/-- The text of a mark. -/
noncomputable def mt (m : Nat) : ByteArray := if h : m ≤ 4611686018427387904 then Classical.choose (markText_some m h) else ByteArray.empty
theorem mt_ev (m : Nat) (hm : m ≤ 4611686018427387904) : Ev (fun k => laws_markText.f k (m : Int)) (mt m) := by
  unfold mt
  rw [dif_pos hm]
  exact Classical.choose_spec (markText_some m hm)

/-- The first i elements bear their marks. -/
def mk {α : Type} (g : Nat → α) (l : List α) (i : Nat) : List α := (List.range i).map g ++ l.drop i
theorem mk_length {α : Type} (g : Nat → α) (l : List α) (i : Nat) (h : i ≤ l.length) : (mk g l i).length = l.length := by simp [mk]; omega
theorem mk_set {α : Type} (g : Nat → α) (l : List α) (i : Nat) (h : i < l.length) : (mk g l i).set i (g i) = mk g l (i + 1) := by
  have hl : ((List.range i).map g).length = i := by simp
  unfold mk
  rw [List.set_append_right _ _ (by omega), hl, Nat.sub_self, List.drop_eq_getElem_cons h, List.set_cons_zero, List.range_succ]
  simp
theorem mk_at {α : Type} (g : Nat → α) (l : List α) (z : α) (i : Nat) (h : i < l.length) : (mk g l l.length).getD i z = g i := by
  simp [mk, List.getD, h]
theorem mk_zero {α : Type} (g : Nat → α) (l : List α) : mk g l 0 = l := by simp [mk]
theorem set_at {α : Type} (l : List α) (z x : α) (i : Nat) (h : i < l.length) : (l.set i x).getD i z = x := by
  rw [List.getD, List.getElem?_set_self h]; rfl

noncomputable def gS (s : Nat) (j : Nat) : ByteArray := mt (s + j)

theorem markStringS_l0 (s : Nat) (hs : s ≤ 1099511627776) (l : List ByteArray) (hl : l.length ≤ 1048576) (d : Nat) : ∀ i : Nat, i + d = l.length →
    Ev (fun k => laws_markStringS.l0 k (mk (gS s) l i) ((s + i : Nat) : Int) (i : Int)) (((s + l.length : Nat) : Int), mk (gS s) l l.length) := by
  induction d with
  | zero =>
    intro i hi
    have hil : i = l.length := by omega
    subst hil
    have hz := mk_length (gS s) l l.length (Nat.le_refl _)
    refine Ev.next ?_
    simp only [laws_markStringS.l0]
    exact Ev.neg (by omega) (Ev.ret rfl)
  | succ d ih =>
    intro i hi
    have hz := mk_length (gS s) l i (by omega)
    have e : wrap64 ((i : Int) + 1) = ((i + 1 : Nat) : Int) := by rw [wrap_ok (by omega)]; omega
    have e1 : wrap64 (((s + i : Nat) : Int) + 1) = ((s + (i + 1) : Nat) : Int) := by rw [wrap_ok (by omega)]; omega
    have hih := ih (i + 1) (by omega)
    rw [← mk_set (gS s) l i (by omega)] at hih
    refine Ev.next ?_
    simp only [laws_markStringS.l0, e, e1, Int.toNat_natCast]
    clear e e1
    exact Ev.pos (by omega) (Ev.bind (mt_ev (s + i) (by omega)) (Ev.pos (by omega) hih))
theorem markStringS_ev (s : Nat) (hs : s ≤ 1099511627776) (l : List ByteArray) (hl : l.length ≤ 1048576) : Ev (fun k => laws_markStringS.f k l (s : Int)) (((s + l.length : Nat) : Int), mk (gS s) l l.length) := by
  have h := markStringS_l0 s hs l hl l.length 0 (Nat.zero_add _)
  rw [mk_zero] at h
  exact h
theorem heldStringS_l0 (s : Nat) (hs : s ≤ 1099511627776) (l : List ByteArray) (hl : l.length ≤ 1048576) (d : Nat) : ∀ i : Nat, i + d = l.length →
    Ev (fun k => laws_heldStringS.l0 k (mk (gS s) l l.length) ((s + i : Nat) : Int) (i : Int)) ((s + l.length : Nat) : Int) := by
  have hz := mk_length (gS s) l l.length (Nat.le_refl _)
  induction d with
  | zero =>
    intro i hi
    have hil : i = l.length := by omega
    subst hil
    refine Ev.next ?_
    simp only [laws_heldStringS.l0]
    exact Ev.neg (by omega) (Ev.ret rfl)
  | succ d ih =>
    intro i hi
    have e : wrap64 ((i : Int) + 1) = ((i + 1 : Nat) : Int) := by rw [wrap_ok (by omega)]; omega
    have e1 : wrap64 (((s + i : Nat) : Int) + 1) = ((s + (i + 1) : Nat) : Int) := by rw [wrap_ok (by omega)]; omega
    have hih := ih (i + 1) (by omega)
    refine Ev.next ?_
    simp only [laws_heldStringS.l0, e, e1, rdOf_n, mk_at (gS s) l _ i (by omega)]
    clear e e1
    exact Ev.pos (by omega) (Ev.pos (by omega) (Ev.bind (mt_ev (s + i) (by omega)) (Ev.pos rfl hih)))
theorem heldStringS_ev (s : Nat) (hs : s ≤ 1099511627776) (l : List ByteArray) (hl : l.length ≤ 1048576) : Ev (fun k => laws_heldStringS.f k (mk (gS s) l l.length) (s : Int)) ((s + l.length : Nat) : Int) :=
  heldStringS_l0 s hs l hl l.length 0 (Nat.zero_add _)

theorem eqStringS_l0 (l : List ByteArray) (hl : l.length ≤ 1048576) (d : Nat) : ∀ i : Nat, i + d = l.length → Ev (fun k => laws_eqStringS.l0 k l l (i : Int)) true := by
  induction d with
  | zero =>
    intro i hi
    refine Ev.next ?_
    simp only [laws_eqStringS.l0]
    exact Ev.neg (by omega) (Ev.ret rfl)
  | succ d ih =>
    intro i hi
    have e : wrap64 ((i : Int) + 1) = ((i + 1 : Nat) : Int) := by rw [wrap_ok (by omega)]; omega
    have hih := ih (i + 1) (by omega)
    refine Ev.next ?_
    simp only [laws_eqStringS.l0, e]
    clear e
    exact Ev.pos (by omega) (Ev.pos (by omega) (Ev.pos (by omega) (Ev.pos trivial hih)))
theorem eqStringS_ev (l : List ByteArray) (hl : l.length ≤ 1048576) : Ev (fun k => laws_eqStringS.f k l l) true := by
  unfold laws_eqStringS.f
  exact Ev.pos rfl (eqStringS_l0 l hl _ 0 (Nat.zero_add _))
theorem specSec_cut (s : ByteArray) (h : 3 ≤ s.size) : ∃ t : ByteArray, Ev (fun k => spec_l1Sec.l0 k s) t ∧ t.size = 3 ∧ ∀ i : Nat, i < 3 → bt t (i : Int) = bt s (i : Int) := by
  refine ⟨s.extract 0 3, Ev.next ?_, by rw [size_extract _ _ _ h], fun i hi => ?_⟩
  · simp only [spec_l1Sec.l0]
    exact Ev.neg (by omega) (Ev.pos (by omega) (Ev.pos (by omega) (Ev.ret rfl)))
  · rw [bt_extract s 0 3 i h (by omega), Nat.zero_add]
theorem specSec_pad (d : Nat) : ∀ s : ByteArray, s.size + d = 3 → ∃ t : ByteArray, Ev (fun k => spec_l1Sec.l0 k s) t ∧ t.size = 3 ∧ ∀ i : Nat, i < 3 → bt t (i : Int) = bt s (i : Int) := by
  induction d with
  | zero => intro s hs; exact specSec_cut s (by omega)
  | succ d ih =>
    intro s hs
    have hz : (s ++ (⟨#[0]⟩ : ByteArray)).size = s.size + 1 := by rw [ByteArray.size_append]; rfl
    obtain ⟨t, h1, h2, h3⟩ := ih (s ++ (⟨#[0]⟩ : ByteArray)) (by omega)
    refine ⟨t, Ev.next ?_, h2, fun i hi => ?_⟩
    · simp only [spec_l1Sec.l0]
      exact Ev.pos (by omega) (Ev.pos (by omega) h1)
    · rw [h3 i hi]
      by_cases hi : i < s.size
      · exact bt_append_left _ _ _ hi
      · rw [bt_over s i (by omega)]
        obtain ⟨j, rfl⟩ : ∃ j, i = s.size + j := ⟨i - s.size, by omega⟩
        rw [bt_append_right]
        rw [bt_list]
        match j with
        | 0 => rfl
        | j + 1 => rfl
/-- Cut off, or with noughts behind. -/
theorem specSec_ev (s : ByteArray) : ∃ t : ByteArray, Ev (fun k => spec_l1Sec.f k s) t ∧ t.size = 3 ∧ ∀ i : Nat, i < 3 → bt t (i : Int) = bt s (i : Int) := by
  unfold spec_l1Sec.f
  by_cases h : 3 ≤ s.size
  · exact specSec_cut s h
  · exact specSec_pad (3 - s.size) s (by omega)
theorem l6In_eq (n lo hi : Int) : spec_l6In.f n lo hi = some (decide (lo ≤ n ∧ n ≤ hi)) := by
  unfold spec_l6In.f
  by_cases h : n ≥ lo
  · rw [if_pos h]
    have : (lo ≤ n ∧ n ≤ hi) ↔ n ≤ hi := ⟨fun x => x.2, fun x => ⟨h, x⟩⟩
    simp only [this]
  · rw [if_neg h]
    have : ¬ (lo ≤ n ∧ n ≤ hi) := fun x => h x.1
    simp only [this, decide_false]

/-! ### columns -/
def col (s : ByteArray) (k : Nat) : ByteArray := strOfNums [bt s ((3 * k : Nat) : Int), bt s ((3 * k + 1 : Nat) : Int), bt s ((3 * k + 2 : Nat) : Int)]
theorem col_size (s : ByteArray) (k : Nat) : (col s k).size = 3 := by rw [col, strOfNums_size]; rfl
theorem bt_byte (s : ByteArray) (i : Int) : 0 ≤ bt s i ∧ bt s i < 256 := by have := bt_range s i; omega
theorem col_bt (s : ByteArray) (k i : Nat) (hi : i < 3) : bt (col s k) (i : Int) = bt s ((3 * k + i : Nat) : Int) := by
  have hb : ∀ x ∈ [bt s ((3 * k : Nat) : Int), bt s ((3 * k + 1 : Nat) : Int), bt s ((3 * k + 2 : Nat) : Int)], 0 ≤ x ∧ x < 256 := by
    intro x hx
    simp only [List.mem_cons, List.not_mem_nil, or_false] at hx
    rcases hx with rfl | rfl | rfl <;> exact bt_byte _ _
  rw [col, bt_strOfNums _ hb]
  match i with
  | 0 => rfl
  | 1 => rfl
  | 2 => rfl
theorem col_of {s t : ByteArray} {k : Nat} (h3 : t.size = 3) (h : ∀ i : Nat, i < 3 → bt t (i : Int) = bt s ((3 * k + i : Nat) : Int)) : t = col s k :=
  text_ext (by rw [h3, col_size]) fun i hi => by rw [col_bt s k i (by omega)]; exact h i (by omega)
def cols (s : ByteArray) (n : Nat) : List ByteArray := (List.range n).map (col s)
theorem cols_succ (s : ByteArray) (n : Nat) : cols s (n + 1) = cols s n ++ [col s n] := by simp [cols, List.range_succ]
theorem cols_len (s : ByteArray) (n : Nat) : (cols s n).length = n := by simp [cols]
def many (s : ByteArray) : Nat := (s.size + 2) / 3
theorem specCols_l0 (s : ByteArray) (hs : s.size ≤ 9) (d : Nat) : ∀ k : Nat, k + d = many s → Ev (fun n => spec_ColsOf.l0 n s (cols s k) ((3 * k : Nat) : Int)) (cols s (many s)) := by
  induction d with
  | zero =>
    intro k hk
    have hm : many s = (s.size + 2) / 3 := rfl
    obtain rfl : k = many s := by omega
    refine Ev.next ?_
    simp only [spec_ColsOf.l0]
    exact Ev.neg (by omega) (Ev.ret rfl)
  | succ d ih =>
    intro k hk
    have hm : many s = (s.size + 2) / 3 := rfl
    have hlt : 3 * k < s.size := by omega
    have e : wrap64 (((3 * k : Nat) : Int) + 3) = ((3 * (k + 1) : Nat) : Int) := by rw [wrap_ok (by omega)]; omega
    obtain ⟨t, h1, h2, h3⟩ := specSec_ev (s.extract (3 * k) s.size)
    have ht : t = col s k := col_of h2 fun i hi => by
      rw [h3 i hi]
      by_cases hh : 3 * k + i < s.size
      · exact bt_extract s (3 * k) s.size i (Nat.le_refl _) hh
      · rw [bt_over s (3 * k + i) (by omega), bt_over _ i (by rw [size_extract _ _ _ (Nat.le_refl _)]; omega)]
    have hih := ih (k + 1) (by omega)
    rw [cols_succ, ← ht] at hih
    have hl := cols_len s k
    refine Ev.next ?_
    simp only [spec_ColsOf.l0, e, Int.toNat_natCast]
    clear e
    exact Ev.pos (by omega) (Ev.pos (by omega) (Ev.pos (by omega) (Ev.bind h1 (Ev.pos (by omega) hih))))
theorem repeat0 : ∀ c : Nat, Lib.repeatL [0] c = List.replicate c (0 : UInt8)
  | 0 => rfl
  | c + 1 => by rw [Lib.repeatL, repeat0 c, List.replicate_succ]; rfl
theorem zeros_eq (c : Nat) (hc : c ≤ 1048576) : ∃ z, strings_Repeat.f (⟨#[0]⟩ : ByteArray) (c : Int) = some z ∧ z.size = c ∧ ∀ i : Nat, bt z (i : Int) = 0 := by
  refine ⟨⟨(Lib.repeatL [0] c).toArray⟩, ?_, ?_, fun i => ?_⟩
  · unfold strings_Repeat.f
    rw [if_pos ⟨by omega, by omega, by decide⟩, Int.toNat_natCast]
  · show (Lib.repeatL [0] c).toArray.size = c
    rw [repeat0]
    simp
  · rw [bt_list]
    show (((Lib.repeatL [0] c).toArray.toList.getD i 0).toNat : Int) = 0
    rw [repeat0]
    simp only [List.getD, List.getElem?_replicate]
    split <;> rfl
theorem implCols_l0 (s pd : ByteArray) (hs : s.size ≤ 9) (hp : pd.size = 3 * many s) (hb : ∀ i : Nat, i < 3 * many s → bt pd (i : Int) = bt s (i : Int)) (d : Nat) : ∀ k : Nat, k + d = many s → Ev (fun n => impl_ColsOf.l0 n pd (cols s k) (many s : Int) (k : Int)) (cols s (many s)) := by
  have hm : many s = (s.size + 2) / 3 := rfl
  induction d with
  | zero =>
    intro k hk
    obtain rfl : k = many s := by omega
    refine Ev.next ?_
    simp only [impl_ColsOf.l0]
    exact Ev.neg (by omega) (Ev.ret rfl)
  | succ d ih =>
    intro k hk
    have e1 : wrap64 ((k : Int) + 1) = ((k + 1 : Nat) : Int) := by rw [wrap_ok (by omega)]; omega
    have e2 : wrap64 ((k : Int) * 3) = ((3 * k : Nat) : Int) := by rw [wrap_ok (by omega)]; omega
    have e3 : wrap64 (((k + 1 : Nat) : Int) * 3) = ((3 * k + 3 : Nat) : Int) := by rw [wrap_ok (by omega)]; omega
    have ht : pd.extract (3 * k) (3 * k + 3) = col s k := col_of (by rw [size_extract _ _ _ (by omega)]; omega) fun i hi => by
      rw [bt_extract pd (3 * k) (3 * k + 3) i (by omega) (by omega)]
      exact hb (3 * k + i) (by omega)
    have hih := ih (k + 1) (by omega)
    rw [cols_succ, ← ht] at hih
    have hl := cols_len s k
    refine Ev.next ?_
    simp only [impl_ColsOf.l0, e1, e2, e3, Int.toNat_natCast]
    clear e1 e2 e3
    exact Ev.pos (by omega) (Ev.pos (by omega) (Ev.pos (by omega) (Ev.pos (by omega) (Ev.pos (by omega) hih))))
def R (s : ByteArray) : List ByteArray := if 1 ≤ s.size ∧ s.size ≤ 9 then cols s (many s) else []
theorem R_len (s : ByteArray) : (R s).length ≤ 3 := by
  unfold R
  split
  · rw [cols_len]
    have hm : many s = (s.size + 2) / 3 := rfl
    omega
  · simp
theorem specCols_R (s : ByteArray) : Ev (fun k => spec_ColsOf.f k s) (R s) := by
  unfold spec_ColsOf.f R
  refine Ev.take rfl (Ev.take (l6In_eq _ _ _) ?_)
  by_cases h : 1 ≤ s.size ∧ s.size ≤ 9
  · rw [if_pos h]
    exact Ev.pos (decide_eq_true (by omega)) (specCols_l0 s h.2 (many s) 0 (Nat.zero_add _))
  · rw [if_neg h]
    exact Ev.neg (by rw [decide_eq_true_iff]; omega) (Ev.ret rfl)
theorem implCols_R (s : ByteArray) : Ev (fun k => impl_ColsOf.f k s) (R s) := by
  have hl : s.toList.length = s.size := by simp [ByteArray.toList_eq]
  unfold impl_ColsOf.f R
  by_cases h0 : s.size = 0
  · rw [if_neg (by omega)]
    refine Ev.pos (List.eq_nil_of_length_eq_zero (by omega)) (Ev.next ?_)
    simp only [impl_ColsOf.j0]
    exact Ev.pos trivial (Ev.ret rfl)
  · refine Ev.neg (fun e => by rw [e] at hl; simp at hl; omega) (Ev.next ?_)
    simp only [impl_ColsOf.j0]
    by_cases h9 : s.size ≤ 9
    · rw [if_pos ⟨by omega, h9⟩]
      have hm : many s = (s.size + 2) / 3 := rfl
      have e1 : wrap64 ((s.size : Int) + 3) = (s.size : Int) + 3 := wrap_ok (by omega)
      have e2 : wrap64 ((s.size : Int) + 3 - 1) = ((s.size + 2 : Nat) : Int) := by rw [wrap_ok (by omega)]; omega
      have e3 : wrap64 (((s.size + 2) / 3 : Nat) : Int) = ((many s : Nat) : Int) := by rw [wrap_ok (by omega), hm]
      have hc : impl_columns.f (s.size : Int) = some ((many s : Nat) : Int) := by
        unfold impl_columns.f
        rw [e1, e2, show Int.tdiv ((s.size + 2 : Nat) : Int) 3 = (((s.size + 2) / 3 : Nat) : Int) from rfl, e3]
      have e4 : wrap64 (((many s : Nat) : Int) * 3) = ((3 * many s : Nat) : Int) := by rw [wrap_ok (by omega)]; omega
      have e5 : wrap64 (((3 * many s : Nat) : Int) - (s.size : Int)) = ((3 * many s - s.size : Nat) : Int) := by rw [wrap_ok (by omega)]; omega
      obtain ⟨z, hz1, hz2, hz3⟩ := zeros_eq (3 * many s - s.size) (by omega)
      clear e1 e2 e3
      refine Ev.neg (by rw [decide_eq_true_iff]; omega) (Ev.take hc (Ev.take (a := z) (by rw [e4, e5]; exact hz1) ?_))
      clear e4 e5
      refine Ev.pos (by omega) (implCols_l0 s (s ++ z) h9 (by rw [ByteArray.size_append]; omega) (fun i hi => ?_) (many s) 0 (Nat.zero_add _))
      by_cases hh : i < s.size
      · exact bt_append_left s z i hh
      · obtain ⟨j, rfl⟩ : ∃ j, i = s.size + j := ⟨i - s.size, by omega⟩
        rw [bt_append_right, hz3, bt_over s _ (by omega)]
    · rw [if_neg (by omega)]
      exact Ev.pos (decide_eq_true (by omega)) (Ev.ret rfl)
theorem FnExactColsOf : laws_FnExactColsOf.Pure := by
  intro s _
  apply Ev.rounds
  unfold laws_FnExactColsOf.f
  by_cases h0 : (s.size : Int) > 1048576
  · exact Ev.pos h0 (Ev.ret rfl)
  · have hl := R_len s
    have hq := eqStringS_ev (R s) (by omega)
    have hmk := markStringS_ev 1 (by omega) (R s) (by omega)
    have hhd := heldStringS_ev 1 (by omega) (R s) (by omega)
    have hn : ¬ (((1 + (R s).length : Nat) : Int) < 0) := by omega
    exact Ev.neg h0 (Ev.bind (specCols_R s) (Ev.bind (implCols_R s) (Ev.bind hq (Ev.pos rfl (Ev.bind hmk (Ev.bind hhd (Ev.neg hn (Ev.pos rfl (Ev.bind (implCols_R s) (Ev.bind hq (Ev.pos rfl (Ev.bind hhd (Ev.neg hn (Ev.pos rfl (Ev.ret rfl)))))))))))))))
end Go.Proofs.Ytoelfgkigbfieaa.Pure
