/- Plain: models weighed, copied, compared; ModelOk: the program's and the reference's answer are one. Conditions: a model of at most 2^20 volumes. -/
import Derived.Test.YtmfehjkcefpeoaaEv
import Derived.Test.YtmfehjkcefpeoaaExModelOk
import Derived.Test.YtmfehjkcefpeoaaPrint4
import Derived.Test.YtmfehjkcefpeoaaPrint6
import Derived.Test.YtmfehjkcefpeoaaPrint8
import Derived.Test.YtmfehjkcefpeoaaPrint9
namespace Go.Proofs.Ytmfehjkcefpeoaa.Pure
open Go.RowKit Go.Maps Go.Proofs.Ytmfehjkcefpeoaa.Print Go.Proofs.YtmfehjkcefpeoaaW.PrintWords Go.Proofs.YtmfehjkcefpeoaaW.PrintLast
set_option linter.unusedSimpArgs false
set_option linter.unusedVariables false

theorem Ev.next {α : Type} {g : Nat → Option α} {r : α} (k : Ev (fun n => g (n + 1)) r) : Ev g r := Ev.step (fun _ => rfl) k
def colAt (cols : List ByteArray) (k : Nat) : ByteArray := cols.getD k ByteArray.empty
theorem rdOf_nat (cols : List ByteArray) (k : Nat) : rdOf ByteArray.empty cols (k : Int) = colAt cols k := by simp [rdOf, colAt]
theorem colAt_get (l : List ByteArray) (j : Nat) (h : j < l.length) : colAt l j = l[j] := by simp [colAt, List.getD, h]
theorem rd39 (l : List S39) (k : Nat) : rd_T39 l (k : Int) = l.getD k z39 := by simp [rd_T39]
theorem rd58 (l : List S58) (k : Nat) : rd_T58 l (k : Int) = l.getD k z58 := by simp [rd_T58]
theorem getD_mem {α : Type} {l : List α} {z : α} {i : Nat} (h : i < l.length) : l.getD i z ∈ l := by
  rw [List.getD, List.getElem?_eq_getElem h]
  exact List.getElem_mem h
theorem getD_some {α : Type} {l : List α} {z : α} {i : Nat} (h : i < l.length) : l[i]? = some (l.getD i z) := by
  rw [List.getD, List.getElem?_eq_getElem h]; rfl
theorem fill_set {α : Type} (l : List α) (z x : α) (i : Nat) (hx : l[i]? = some x) : (l.take i ++ List.replicate (l.length - i) z).set i x = l.take (i + 1) ++ List.replicate (l.length - (i + 1)) z := by
  have hi : i < l.length := (List.getElem?_eq_some_iff.1 hx).1
  have ht : (l.take i).length = i := by rw [List.length_take]; omega
  rw [List.set_append_right _ _ (by omega), ht, Nat.sub_self, show l.length - i = (l.length - (i + 1)) + 1 by omega, List.replicate_succ, List.set_cons_zero, List.take_add_one, hx]
  simp
theorem fill_len {α : Type} (l : List α) (z : α) (i : Nat) (h : i ≤ l.length) : (l.take i ++ List.replicate (l.length - i) z).length = l.length := by
  simp only [List.length_append, List.length_take, List.length_replicate]
  omega
theorem fill_end {α : Type} (l : List α) (z : α) : l.take l.length ++ List.replicate (l.length - l.length) z = l := by simp

theorem colAt_some {l : List ByteArray} {i : Nat} (h : i < l.length) : l[i]? = some (colAt l i) := by
  simp [colAt, List.getD, h]
theorem toStringS_l0 (l : List ByteArray) (hl : l.length ≤ 1048576) (d : Nat) : ∀ i : Nat, i + d = l.length →
    Ev (fun k => laws_toStringS.l0 k l (l.take i ++ List.replicate (l.length - i) (⟨#[]⟩ : ByteArray)) (i : Int)) l := by
  induction d with
  | zero =>
    intro i hi
    refine Ev.next ?_
    simp only [laws_toStringS.l0]
    have hil : i = l.length := by omega
    subst hil
    exact Ev.neg (by omega) (Ev.ret (fill_end l _))
  | succ d ih =>
    intro i hi
    have e : wrap64 ((i : Int) + 1) = ((i + 1 : Nat) : Int) := by rw [wrap_ok (by omega)]; omega
    have hih := ih (i + 1) (by omega)
    have hlen := fill_len l (⟨#[]⟩ : ByteArray) i (by omega)
    refine Ev.next ?_
    simp only [laws_toStringS.l0, e, rdOf_nat, Int.toNat_natCast]
    clear e
    rw [fill_set l _ _ i (colAt_some (by omega))]
    exact Ev.pos (by omega) (Ev.pos (by omega) (Ev.pos (by omega) hih))
theorem toStringS_ev (l : List ByteArray) (hl : l.length ≤ 1048576) : Ev (fun k => laws_toStringS.f k l) l := by
  have h := toStringS_l0 l hl l.length 0 (Nat.zero_add _)
  simp only [List.take_zero, List.nil_append, Nat.sub_zero] at h
  unfold laws_toStringS.f
  simp only [Int.toNat_natCast]
  exact Ev.pos (by omega) (Ev.pos (by omega) h)
theorem eqStringS_l0 (l : List ByteArray) (hl : l.length ≤ 1048576) (d : Nat) : ∀ i : Nat, i + d = l.length → Ev (fun k => laws_eqStringS.l0 k l l (i : Int)) true := by
  induction d with
  | zero =>
    intro i hi
    refine Ev.next ?_
    simp only [laws_eqStringS.l0]
    exact Ev.neg (by omega) (Ev.ret rfl)
  | succ d ih =>
    intro i hi
    have e : wrap64 ((i : Int) + 1) = ((i + 1 : Nat) : Int) := by rw [wrap_ok (by omega)]; omega
    have hih := ih (i + 1) (by omega)
    refine Ev.next ?_
    simp only [laws_eqStringS.l0, e]
    clear e
    exact Ev.pos (by omega) (Ev.pos (by omega) (Ev.pos (by omega) (Ev.pos trivial hih)))
theorem eqStringS_ev (l : List ByteArray) (hl : l.length ≤ 1048576) : Ev (fun k => laws_eqStringS.f k l l) true := by
  unfold laws_eqStringS.f
  exact Ev.pos rfl (eqStringS_l0 l hl _ 0 (Nat.zero_add _))

theorem szStringS_l0 (l : List ByteArray) (hl : l.length ≤ 1048576) (hs : ∀ x ∈ l, x.size ≤ maxLen) (d : Nat) : ∀ (i : Nat) (n : Int), i + d = l.length → 0 ≤ n → n ≤ 1048576 →
    ∃ t : Int, Ev (fun k => laws_szStringS.l0 k l n (i : Int)) t ∧ t ≤ n := by
  have hM : maxLen = 9223372036854775807 := by decide
  induction d with
  | zero =>
    intro i n hi _ _
    refine ⟨n, Ev.next ?_, Int.le_refl _⟩
    simp only [laws_szStringS.l0]
    exact Ev.neg (by omega) (Ev.ret rfl)
  | succ d ih =>
    intro i n hi h0 h1
    have e : wrap64 ((i : Int) + 1) = ((i + 1 : Nat) : Int) := by rw [wrap_ok (by omega)]; omega
    have hz : (colAt l i).size ≤ maxLen := hs _ (List.mem_of_getElem? (colAt_some (by omega)))
    have e2 : wrap64 (n - ((colAt l i).size : Int)) = n - ((colAt l i).size : Int) := wrap_ok (by omega)
    by_cases hneg : n - ((colAt l i).size : Int) < 0
    · refine ⟨-1, Ev.next ?_, by omega⟩
      simp only [laws_szStringS.l0, e, rdOf_nat, e2]
      clear e e2
      exact Ev.pos (by omega) (Ev.pos (by omega) (Ev.pos hneg (Ev.ret rfl)))
    · obtain ⟨t, ht, hle⟩ := ih (i + 1) (n - ((colAt l i).size : Int)) (by omega) (by omega) (by omega)
      refine ⟨t, Ev.next ?_, by omega⟩
      simp only [laws_szStringS.l0, e, rdOf_nat, e2]
      clear e e2
      exact Ev.pos (by omega) (Ev.pos (by omega) (Ev.neg hneg ht))
theorem szStringS_ev (l : List ByteArray) (hl : l.length ≤ maxLen) (hs : ∀ x ∈ l, x.size ≤ maxLen) (n : Int) (h0 : 0 ≤ n) (h1 : n ≤ 1048576) : ∃ t : Int, Ev (fun k => laws_szStringS.f k l n) t ∧ t ≤ n ∧ (¬ t < 0 → l.length ≤ 1048576) := by
  have hM : maxLen = 9223372036854775807 := by decide
  have e : wrap64 (n - (l.length : Int)) = n - (l.length : Int) := wrap_ok (by omega)
  unfold laws_szStringS.f
  simp only [e]
  clear e
  by_cases h : n - (l.length : Int) < 0
  · exact ⟨-1, Ev.pos h (Ev.ret rfl), by omega, by omega⟩
  · obtain ⟨t, ht, hle⟩ := szStringS_l0 l (by omega) hs l.length 0 (n - (l.length : Int)) (Nat.zero_add _) (by omega) (by omega)
    exact ⟨t, Ev.neg h ht, by omega, by omega⟩
def Wf58 (x : S58) : Prop := x.f0.size ≤ maxLen ∧ x.f1.length ≤ maxLen ∧ ∀ y ∈ x.f1, y.size ≤ maxLen
theorem szShelf_ev (x : S58) (hx : Wf58 x) (n : Int) (h0 : 0 ≤ n) (h1 : n ≤ 1048576) : ∃ t : Int, Ev (fun k => laws_szShelf.f k x.f0 x.f1 n) t ∧ t ≤ n ∧ (¬ t < 0 → x.f1.length ≤ 1048576) := by
  have hM : maxLen = 9223372036854775807 := by decide
  have hs := hx.1
  have e : wrap64 (n - (x.f0.size : Int)) = n - (x.f0.size : Int) := wrap_ok (by omega)
  unfold laws_szShelf.f
  simp only [e]
  clear e
  by_cases h : n - (x.f0.size : Int) < 0
  · exact ⟨-1, Ev.pos h (Ev.ret rfl), by omega, by omega⟩
  · obtain ⟨t, ht, hle, hb⟩ := szStringS_ev x.f1 hx.2.1 hx.2.2 (n - (x.f0.size : Int)) (by omega) (by omega)
    by_cases hn : t < 0
    · exact ⟨-1, Ev.neg h (Ev.bind ht (Ev.pos hn (Ev.ret rfl))), by omega, by omega⟩
    · exact ⟨t, Ev.neg h (Ev.bind ht (Ev.neg hn (Ev.ret rfl))), by omega, hb⟩
theorem szShelfS_l0 (l : List S58) (hl : l.length ≤ 1048576) (hs : ∀ x ∈ l, Wf58 x) (d : Nat) : ∀ (i : Nat) (n : Int), i + d = l.length → 0 ≤ n → n ≤ 1048576 →
    ∃ t : Int, Ev (fun k => laws_szShelfS.l0 k l n (i : Int)) t ∧ (¬ t < 0 → ∀ j : Nat, i ≤ j → j < l.length → (l.getD j z58).f1.length ≤ 1048576) := by
  induction d with
  | zero =>
    intro i n hi _ _
    refine ⟨n, Ev.next ?_, fun _ j h1 h2 => by omega⟩
    simp only [laws_szShelfS.l0]
    exact Ev.neg (by omega) (Ev.ret rfl)
  | succ d ih =>
    intro i n hi h0 h1
    have e : wrap64 ((i : Int) + 1) = ((i + 1 : Nat) : Int) := by rw [wrap_ok (by omega)]; omega
    obtain ⟨t, ht, hle, hb⟩ := szShelf_ev (l.getD i z58) (hs _ (getD_mem (by omega))) n h0 h1
    by_cases hneg : t < 0
    · refine ⟨-1, Ev.next ?_, by omega⟩
      simp only [laws_szShelfS.l0, e, rd58]
      clear e
      exact Ev.pos (by omega) (Ev.pos (by omega) (Ev.bind ht (Ev.pos hneg (Ev.ret rfl))))
    · obtain ⟨u, hu, hj⟩ := ih (i + 1) t (by omega) (by omega) (by omega)
      refine ⟨u, Ev.next ?_, fun h j h1 h2 => ?_⟩
      · simp only [laws_szShelfS.l0, e, rd58]
        clear e
        exact Ev.pos (by omega) (Ev.pos (by omega) (Ev.bind ht (Ev.neg hneg hu)))
      · by_cases e : j = i
        · rw [e]; exact hb hneg
        · exact hj h j (by omega) h2
/-- What a law lets in: a model that fits. -/
structure Fits (l : List S58) : Prop where
  len : l.length ≤ 1048576
  blocks : ∀ x ∈ l, x.f1.length ≤ 1048576
theorem szModel_ev (l : List S58) (hl : l.length ≤ maxLen) (hs : ∀ x ∈ l, Wf58 x) : ∃ t : Int, Ev (fun k => laws_szModel.f k l 1048576) t ∧ (¬ t < 0 → Fits l) := by
  have hM : maxLen = 9223372036854775807 := by decide
  have e : wrap64 (1048576 - (l.length : Int)) = 1048576 - (l.length : Int) := wrap_ok (by omega)
  unfold laws_szModel.f laws_szShelfS.f
  simp only [e]
  clear e
  by_cases h : 1048576 - (l.length : Int) < 0
  · exact ⟨-1, Ev.bind (Ev.pos h (Ev.ret rfl)) (Ev.pos (by omega) (Ev.ret rfl)), by omega⟩
  · obtain ⟨t, ht, hj⟩ := szShelfS_l0 l (by omega) hs l.length 0 (1048576 - (l.length : Int)) (Nat.zero_add _) (by omega) (by omega)
    by_cases hn : t < 0
    · exact ⟨-1, Ev.bind (Ev.neg h ht) (Ev.pos hn (Ev.ret rfl)), by omega⟩
    · refine ⟨t, Ev.bind (Ev.neg h ht) (Ev.neg hn (Ev.ret rfl)), fun _ => ⟨by omega, fun x hx => ?_⟩⟩
      obtain ⟨j, hj2, rfl⟩ := List.getElem_of_mem hx
      have := hj hn j (Nat.zero_le _) hj2
      simpa [List.getD, hj2] using this

/-! ### copied -/
def conv (x : S58) : S39 := ⟨x.f0, x.f1⟩
theorem toShelf_ev (x : S58) (h : x.f1.length ≤ 1048576) : Ev (fun k => laws_toShelf.f k x.f0 x.f1) (x.f0, x.f1) := by
  unfold laws_toShelf.f
  exact Ev.bind (toStringS_ev x.f1 h) (Ev.ret rfl)
theorem map_getD (l : List S58) (i : Nat) (h : i < l.length) : (l.map conv).getD i z39 = conv (l.getD i z58) := by
  simp [List.getD, h]
theorem toShelfS_l0 (l : List S58) (hF : Fits l) (d : Nat) : ∀ i : Nat, i + d = l.length →
    Ev (fun k => laws_toShelfS.l0 k l ((l.map conv).take i ++ List.replicate ((l.map conv).length - i) z39) (i : Int)) (l.map conv) := by
  have hl := hF.len
  have hlm : (l.map conv).length = l.length := List.length_map _
  induction d with
  | zero =>
    intro i hi
    refine Ev.next ?_
    simp only [laws_toShelfS.l0]
    have hil : i = (l.map conv).length := by omega
    subst hil
    exact Ev.neg (by omega) (Ev.ret (fill_end _ _))
  | succ d ih =>
    intro i hi
    have e : wrap64 ((i : Int) + 1) = ((i + 1 : Nat) : Int) := by rw [wrap_ok (by omega)]; omega
    have hih := ih (i + 1) (by omega)
    have hlen := fill_len (l.map conv) z39 i (by omega)
    have ht := toShelf_ev (l.getD i z58) (hF.blocks _ (getD_mem (by omega)))
    have hx : (l.map conv)[i]? = some (⟨(l.getD i z58).f0, (l.getD i z58).f1⟩ : S39) := by
      rw [getD_some (z := z39) (by omega), map_getD l i (by omega)]
      rfl
    refine Ev.next ?_
    simp only [laws_toShelfS.l0, e, rd58, Int.toNat_natCast]
    clear e
    refine Ev.pos (by omega) (Ev.pos (by omega) (Ev.bind ht (Ev.pos (by omega) ?_)))
    rw [fill_set (l.map conv) _ _ i hx]
    exact hih
theorem toModel_ev (l : List S58) (hF : Fits l) : Ev (fun k => laws_toModel.f k l) (l.map conv) := by
  have hl := hF.len
  have h := toShelfS_l0 l hF l.length 0 (Nat.zero_add _)
  simp only [List.take_zero, List.nil_append, Nat.sub_zero, List.length_map] at h
  unfold laws_toModel.f laws_toShelfS.f
  simp only [Int.toNat_natCast]
  exact Ev.bind (Ev.pos (by omega) (Ev.pos (by omega) h)) (Ev.ret rfl)

/-! ### compared -/
structure FitsM (m : List S39) : Prop where
  len : m.length ≤ 1048576
  blocks : ∀ x ∈ m, x.f1.length ≤ 1048576
  names : ∀ x ∈ m, x.f0.size ≤ maxLen
theorem Fits.conv {l : List S58} (h : Fits l) (hs : ∀ x ∈ l, Wf58 x) : FitsM (l.map Pure.conv) :=
  ⟨by rw [List.length_map]; exact h.len, fun x hx => by obtain ⟨y, hy, rfl⟩ := List.mem_map.1 hx; exact h.blocks y hy, fun x hx => by obtain ⟨y, hy, rfl⟩ := List.mem_map.1 hx; exact (hs y hy).1⟩
theorem eqShelfS_l0 (m : List S39) (hF : FitsM m) (d : Nat) : ∀ i : Nat, i + d = m.length → Ev (fun k => laws_eqShelfS.l0 k m m (i : Int)) true := by
  have hl := hF.len
  induction d with
  | zero =>
    intro i hi
    refine Ev.next ?_
    simp only [laws_eqShelfS.l0]
    exact Ev.neg (by omega) (Ev.ret rfl)
  | succ d ih =>
    intro i hi
    have e : wrap64 ((i : Int) + 1) = ((i + 1 : Nat) : Int) := by rw [wrap_ok (by omega)]; omega
    have hih := ih (i + 1) (by omega)
    have hs : Ev (fun k => laws_eqShelf.f k (m.getD i z39).f0 (m.getD i z39).f1 (m.getD i z39).f0 (m.getD i z39).f1) true := by
      unfold laws_eqShelf.f
      exact Ev.pos rfl (Ev.bind (eqStringS_ev _ (hF.blocks _ (getD_mem (by omega)))) (Ev.pos rfl (Ev.ret rfl)))
    refine Ev.next ?_
    simp only [laws_eqShelfS.l0, e, rd39]
    clear e
    exact Ev.pos (by omega) (Ev.pos (by omega) (Ev.pos (by omega) (Ev.bind hs (Ev.pos rfl hih))))
theorem eqModel_ev (m : List S39) (hF : FitsM m) : Ev (fun k => laws_eqModel.f k m m) true := by
  unfold laws_eqModel.f laws_eqShelfS.f
  exact Ev.bind (Ev.pos rfl (eqShelfS_l0 m hF m.length 0 (Nat.zero_add _))) (Ev.pos rfl (Ev.ret rfl))
theorem l6In_eq (n lo hi : Int) : spec_l6In.f n lo hi = some (decide (lo ≤ n ∧ n ≤ hi)) := by
  unfold spec_l6In.f
  by_cases h : n ≥ lo
  · rw [if_pos h]
    have : (lo ≤ n ∧ n ≤ hi) ↔ n ≤ hi := ⟨fun x => x.2, fun x => ⟨h, x⟩⟩
    simp only [this]
  · rw [if_neg h]
    have : ¬ (lo ≤ n ∧ n ≤ hi) := fun x => h x.1
    simp only [this, decide_false]

/-! ### names -/
theorem volB_iff {s : ByteArray} (h : 1 ≤ s.size ∧ s.size ≤ 3) : volB s = true ↔ ∀ j : Nat, j < s.size → letB (bt s (j : Int)) = true := by
  unfold volB
  rw [decide_eq_true h, Bool.true_and, List.all_eq_true]
  exact ⟨fun x j hj => x j (List.mem_range.2 hj), fun x j hj => x j (List.mem_range.1 hj)⟩
theorem l2Name_l0 (s : ByteArray) (h : 1 ≤ s.size ∧ s.size ≤ 3) (d : Nat) : ∀ i : Nat, i + d = s.size → (∀ j : Nat, j < i → letB (bt s (j : Int)) = true) → Ev (fun k => spec_l2Name.l0 k s (i : Int)) (volB s) := by
  induction d with
  | zero =>
    intro i hi hj
    refine Ev.next ?_
    simp only [spec_l2Name.l0]
    exact Ev.neg (by omega) (Ev.ret ((volB_iff h).2 fun j hj2 => hj j (by omega)).symm)
  | succ d ih =>
    intro i hi hj
    have e : wrap64 ((i : Int) + 1) = ((i + 1 : Nat) : Int) := by rw [wrap_ok (by omega)]; omega
    refine Ev.next ?_
    simp only [spec_l2Name.l0, e]
    clear e
    refine Ev.pos (by omega) (Ev.pos (by omega) ?_)
    have bad : letB (bt s (i : Int)) = false → volB s = false := fun hb => by
      rw [Bool.eq_false_iff]
      intro hv
      have := (volB_iff h).1 hv i (by omega)
      rw [hb] at this
      cases this
    by_cases c1 : bt s (i : Int) < 97
    · exact Ev.pos c1 (Ev.ret (bad (decide_eq_false (by omega))).symm)
    · by_cases c2 : bt s (i : Int) > 122
      · exact Ev.neg c1 (Ev.pos c2 (Ev.ret (bad (decide_eq_false (by omega))).symm))
      · refine Ev.neg c1 (Ev.neg c2 (ih (i + 1) (by omega) fun j hj2 => ?_))
        by_cases e : j = i
        · rw [e]; exact decide_eq_true (by omega)
        · exact hj j (by omega)
theorem l2Name_ev (s : ByteArray) : Ev (fun k => spec_l2Name.f k s) (volB s) := by
  unfold spec_l2Name.f
  refine Ev.take (l6In_eq _ _ _) ?_
  by_cases h : 1 ≤ s.size ∧ s.size ≤ 3
  · exact Ev.pos (decide_eq_true (by omega)) (l2Name_l0 s h s.size 0 (Nat.zero_add _) (fun j hj => by omega))
  · exact Ev.neg (by rw [decide_eq_true_iff]; omega) (Ev.ret (vol_long h).symm)
def isN (nm : ByteArray) (x : S39) : Bool := x.f0.toList == nm.toList
theorem find_l0 (m : List S39) (hl : m.length ≤ 1048576) (nm : ByteArray) (d : Nat) : ∀ i : Nat, i + d = m.length → (∀ j, j < i → isN nm (m.getD j z39) = false) → Ev (fun k => spec_l14Find.l0 k nm (i : Int) m) (findIxG (isN nm) m) := by
  induction d with
  | zero =>
    intro i hi hj
    refine Ev.next ?_
    simp only [spec_l14Find.l0]
    exact Ev.neg (by omega) (Ev.ret (findIxG_none (z := z39) fun j hj2 => hj j (by omega)).symm)
  | succ d ih =>
    intro i hi hj
    have e : wrap64 ((i : Int) + 1) = ((i + 1 : Nat) : Int) := by rw [wrap_ok (by omega)]; omega
    refine Ev.next ?_
    simp only [spec_l14Find.l0, e, rd39]
    clear e
    refine Ev.pos (by omega) (Ev.pos (by omega) ?_)
    by_cases c : (m.getD i z39).f0.toList = nm.toList
    · exact Ev.pos c (Ev.ret (findIxG_at hj (by omega) (beq_iff_eq.2 c)).symm)
    · refine Ev.neg c (ih (i + 1) (by omega) fun j hj2 => ?_)
      by_cases e : j = i
      · rw [e]; exact beq_eq_false_iff_ne.2 c
      · exact hj j (by omega)
theorem find_ev (m : List S39) (hl : m.length ≤ 1048576) (nm : ByteArray) : Ev (fun k => spec_l14Find.f k m nm) (findIxG (isN nm) m) :=
  find_l0 m hl nm m.length 0 (Nat.zero_add _) (fun j hj => by omega)
theorem findIxG_first {α : Type} {z : α} {p : α → Bool} {l : List α} {i : Nat} (h : findIxG p l = (i : Int)) : ∀ j, j < i → p (l.getD j z) = false := by
  unfold findIxG at h
  cases e : l.findIdx? p with
  | none => rw [e] at h; simp only at h; omega
  | some k =>
    rw [e] at h
    simp only at h
    obtain rfl : k = i := by omega
    obtain ⟨hk, _, hj⟩ := List.findIdx?_eq_some_iff_getElem.1 e
    intro j hlt
    have := hj j hlt
    simpa [List.getD, show j < l.length by omega] using this

/-! ### ModelOk -/
/-- Volume i is as it has to be. -/
def okAt (m : List S39) (i : Nat) : Bool := !shelfB (m.getD i z39) && decide (∀ j, j < i → isN (m.getD i z39).f0 (m.getD j z39) = false)
def allOk (m : List S39) : Bool := (List.range m.length).all (okAt m)
theorem allOk_iff (m : List S39) : allOk m = true ↔ ∀ i, i < m.length → okAt m i = true := by
  unfold allOk
  rw [List.all_eq_true]
  exact ⟨fun x j hj => x j (List.mem_range.2 hj), fun x j hj => x j (List.mem_range.1 hj)⟩
theorem allOk_no {m : List S39} {i : Nat} (hi : i < m.length) (h : okAt m i = false) : allOk m = false := by
  rw [Bool.eq_false_iff]
  intro hv
  rw [(allOk_iff m).1 hv i hi] at h
  cases h
def long9 (x : ByteArray) : Bool := decide ((x.size : Int) > 9)
theorem specOk_l1 (m : List S39) (hF : FitsM m) (i : Nat) (hi : i < m.length) (hgo : okAt m i = true → Ev (fun k => spec_ModelOk.l0 k ((i + 1 : Nat) : Int) m) (allOk m))
    (h1 : volB (m.getD i z39).f0 = true) (h2 : (m.getD i z39).f1.length = 3) (h3 : ∀ j, j < i → isN (m.getD i z39).f0 (m.getD j z39) = false) (d : Nat) :
    ∀ c : Nat, c + d = (m.getD i z39).f1.length → (∀ j, j < c → (colAt (m.getD i z39).f1 j).size ≤ 9) → Ev (fun k => spec_ModelOk.l1 k (i : Int) (c : Int) m (m.getD i z39).f0 (m.getD i z39).f1) (allOk m) := by
  have hl := hF.len
  have hany : (∀ j, j < (m.getD i z39).f1.length → (colAt (m.getD i z39).f1 j).size ≤ 9) → okAt m i = true := fun h => by
    have ha : (m.getD i z39).f1.any long9 = false := by
      rw [List.any_eq_false]
      intro x hx
      obtain ⟨j, hj, rfl⟩ := List.getElem_of_mem hx
      have := h j hj
      rw [colAt_get _ _ hj] at this
      rw [long9, decide_eq_true_iff]
      omega
    unfold okAt shelfB
    rw [h1, decide_eq_true h3, show (m.getD i z39).f1.any (fun x : ByteArray => decide ((x.size : Int) > 9)) = false from ha, decide_eq_false (by omega)]
    rfl
  induction d with
  | zero =>
    intro c hc hj
    have e : wrap64 ((i : Int) + 1) = ((i + 1 : Nat) : Int) := by rw [wrap_ok (by omega)]; omega
    refine Ev.next ?_
    simp only [spec_ModelOk.l1, e]
    clear e
    exact Ev.neg (by omega) (hgo (hany fun j hj2 => hj j (by omega)))
  | succ d ih =>
    intro c hc hj
    have e : wrap64 ((c : Int) + 1) = ((c + 1 : Nat) : Int) := by rw [wrap_ok (by omega)]; omega
    refine Ev.next ?_
    simp only [spec_ModelOk.l1, e, rdOf_nat]
    clear e
    refine Ev.pos (by omega) (Ev.pos (by omega) ?_)
    by_cases b : ((colAt (m.getD i z39).f1 c).size : Int) > 9
    · refine Ev.pos b (Ev.ret (allOk_no hi ?_).symm)
      have ha : (m.getD i z39).f1.any (fun x : ByteArray => decide ((x.size : Int) > 9)) = true := by
        rw [List.any_eq_true]
        exact ⟨_, getD_mem (z := ByteArray.empty) (i := c) (by omega), decide_eq_true b⟩
      unfold okAt shelfB
      rw [ha]
      simp
    · refine Ev.neg b (ih (c + 1) (by omega) fun j hj2 => ?_)
      by_cases e : j = c
      · rw [e]; omega
      · exact hj j (by omega)
theorem specOk_l0 (m : List S39) (hF : FitsM m) (d : Nat) : ∀ i : Nat, i + d = m.length → (∀ j, j < i → okAt m j = true) → Ev (fun k => spec_ModelOk.l0 k (i : Int) m) (allOk m) := by
  have hl := hF.len
  induction d with
  | zero =>
    intro i hi hj
    refine Ev.next ?_
    simp only [spec_ModelOk.l0]
    exact Ev.neg (by omega) (Ev.ret ((allOk_iff m).2 fun j hj2 => hj j (by omega)).symm)
  | succ d ih =>
    intro i hi hj
    have hgo : okAt m i = true → Ev (fun k => spec_ModelOk.l0 k ((i + 1 : Nat) : Int) m) (allOk m) := fun h => ih (i + 1) (by omega) fun j hj2 => by
      by_cases e : j = i
      · rw [e]; exact h
      · exact hj j (by omega)
    have stop : okAt m i = false → Ev (fun k => spec_ModelOk.j1 k (i : Int) true m (m.getD i z39).f0 (m.getD i z39).f1) (allOk m) := fun h => by
      rw [allOk_no (by omega) h]
      refine Ev.next ?_
      simp only [spec_ModelOk.j1]
      exact Ev.pos trivial (Ev.ret rfl)
    refine Ev.next ?_
    simp only [spec_ModelOk.l0, rd39]
    refine Ev.pos (by omega) (Ev.pos (by omega) (Ev.bind (l2Name_ev _) ?_))
    by_cases h1 : volB (m.getD i z39).f0 = true
    · refine Ev.pos h1 ?_
      by_cases h2 : ((m.getD i z39).f1.length : Int) = 3
      · refine Ev.pos h2 (Ev.bind (find_ev m hl _) ?_)
        have hself : isN (m.getD i z39).f0 (m.getD i z39) = true := beq_self_eq_true _
        by_cases h3 : findIxG (isN (m.getD i z39).f0) m = (i : Int)
        · rw [h3]
          refine Ev.next ?_
          simp only [spec_ModelOk.j1]
          exact Ev.neg (by simp) (specOk_l1 m hF i (by omega) hgo h1 (by omega) (findIxG_first h3) _ 0 (Nat.zero_add _) (fun j hj => by omega))
        · have e : (findIxG (isN (m.getD i z39).f0) m != (i : Int)) = true := bne_iff_ne.2 h3
          rw [e]
          refine stop ?_
          unfold okAt
          rw [decide_eq_false (fun h => h3 (findIxG_at h (by omega) hself))]
          simp
      · refine Ev.neg h2 (stop ?_)
        unfold okAt shelfB
        rw [decide_eq_true h2]
        simp
    · refine Ev.neg h1 (stop ?_)
      unfold okAt shelfB
      rw [show volB (m.getD i z39).f0 = false by simpa using h1]
      rfl

/-! ### the index's size -/
theorem isMap_idx (l : List S39) : ∀ n, Maps.Tidy (idxD l n)
  | 0 => Maps.tidy_empty
  | n + 1 => (isMap_idx l n).put (by exact trivial) _
theorem has_idx (l : List S39) (q : Lit) : ∀ n, Maps.has (idxD l n) q = true ↔ ∃ j, j < n ∧ nameK l j = q
  | 0 => by simp [idxD, Maps.has]
  | n + 1 => by
    rw [idxD]
    by_cases e : q = nameK l n
    · rw [e, Maps.has_put_same (isMap_idx l n).isMap (by exact trivial)]
      simp only [true_iff]
      exact ⟨n, by omega, rfl⟩
    · rw [Maps.has_put_other e, has_idx l q n]
      constructor
      · rintro ⟨j, h1, h2⟩; exact ⟨j, by omega, h2⟩
      · rintro ⟨j, h1, h2⟩
        by_cases e2 : j = n
        · rw [e2] at h2; exact absurd h2.symm e
        · exact ⟨j, by omega, h2⟩
theorem size_idx_le (l : List S39) : ∀ n, Maps.size (idxD l n) ≤ n
  | 0 => by simp [idxD, Maps.size]
  | n + 1 => by
    rw [idxD, Maps.size_put (isMap_idx l n)]
    have := size_idx_le l n
    split <;> omega
theorem size_idx (l : List S39) : ∀ n, n ≤ Maps.size (idxD l n) ↔ ∀ i, i < n → ∀ j, j < i → nameK l j ≠ nameK l i
  | 0 => ⟨fun _ i hi => by omega, fun _ => Nat.zero_le _⟩
  | n + 1 => by
    have hle := size_idx_le l n
    have ih := size_idx l n
    have hh := has_idx l (nameK l n) n
    rw [idxD, Maps.size_put (isMap_idx l n)]
    by_cases h : Maps.has (idxD l n) (nameK l n) = true
    · rw [if_pos h]
      constructor
      · intro hx; omega
      · intro hx
        obtain ⟨j, h1, h2⟩ := hh.1 h
        exact absurd h2 (hx n (by omega) j h1)
    · rw [if_neg h]
      constructor
      · intro hx i hi j hj
        by_cases e : i = n
        · subst e
          exact fun e2 => h (hh.2 ⟨j, hj, e2⟩)
        · exact ih.1 (by omega) i (by omega) j hj
      · intro hx
        have := ih.2 fun i hi j hj => hx i (by omega) j hj
        omega
theorem nameK_isN (l : List S39) (i j : Nat) : nameK l j ≠ nameK l i ↔ isN (l.getD i z39).f0 (l.getD j z39) = false := by
  unfold nameK isN
  rw [beq_eq_false_iff_ne, ByteArray.toList_eq, ByteArray.toList_eq]
  simp
theorem modelB_eq (m : List S39) : modelB m = (decide (m.length ≤ 4) && allOk m) := by
  unfold modelB
  congr 1
  rw [Bool.eq_iff_iff, allOk_iff, Bool.and_eq_true, decide_eq_true_iff, size_idx, Bool.not_eq_true', List.any_eq_false]
  constructor
  · rintro ⟨h1, h2⟩ i hi
    unfold okAt
    have hs : shelfB (m.getD i z39) = false := by simpa using h2 _ (getD_mem hi)
    rw [hs, decide_eq_true fun j hj => (nameK_isN m i j).1 (h1 i hi j hj)]
    rfl
  · intro h
    refine ⟨fun i hi j hj => (nameK_isN m i j).2 ?_, fun x hx => ?_⟩
    · have := h i hi
      unfold okAt at this
      rw [Bool.and_eq_true, decide_eq_true_iff] at this
      exact this.2 j hj
    · obtain ⟨i, hi, rfl⟩ := List.getElem_of_mem hx
      have := h i hi
      unfold okAt at this
      rw [Bool.and_eq_true, Bool.not_eq_true'] at this
      have h2 := this.1
      simp only [List.getD, List.getElem?_eq_getElem hi, Option.getD_some] at h2
      rw [h2]
      simp
theorem specOk_ev (m : List S39) (hF : FitsM m) : Ev (fun k => spec_ModelOk.f k m) (modelB m) := by
  unfold spec_ModelOk.f
  rw [modelB_eq]
  by_cases h : (m.length : Int) > 4
  · refine Ev.pos h (Ev.ret ?_)
    rw [decide_eq_false (by omega)]
    rfl
  · refine Ev.neg h ?_
    rw [decide_eq_true (by omega), Bool.true_and]
    exact specOk_l0 m hF m.length 0 (Nat.zero_add _) (fun j hj => by omega)
theorem implOk_eq (m : List S39) (hF : FitsM m) : impl_ModelOk.f m = some (modelB m) := by
  unfold impl_ModelOk.f
  rw [if_pos]
  rw [List.all_eq_true]
  exact fun x hx => decide_eq_true (hF.names x hx)
end Go.Proofs.Ytmfehjkcefpeoaa.Pure
