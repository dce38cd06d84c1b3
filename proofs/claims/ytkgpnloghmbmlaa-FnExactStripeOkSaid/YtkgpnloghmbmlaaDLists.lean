/- Plain: lists of texts, of Bools and of writes, and disks: weighed, copied, compared. Conditions: the lists fit (2^20 elements). -/
import Derived.Test.YtkgpnloghmbmlaaEv
import Derived.Test.YtkgpnloghmbmlaaOpens
import Derived.Test.YtkgpnloghmbmlaaPrint4
import Derived.Test.YtkgpnloghmbmlaaPrint5
import Derived.Test.YtkgpnloghmbmlaaPrint9
namespace Go.Proofs.Ytkgpnloghmbmlaa.Pure
open Go.RowKit Go.Proofs.Ytkgpnloghmbmlaa.Print Go.Proofs.YtkgpnloghmbmlaaW.PrintWords

theorem Ev.next {α : Type} {g : Nat → Option α} {r : α} (k : Ev (fun n => g (n + 1)) r) : Ev g r := Ev.step (fun _ => rfl) k
theorem fill_set {α : Type} (l : List α) (z x : α) (i : Nat) (hx : l[i]? = some x) : (l.take i ++ List.replicate (l.length - i) z).set i x = l.take (i + 1) ++ List.replicate (l.length - (i + 1)) z := by
  have hi : i < l.length := (List.getElem?_eq_some_iff.1 hx).1
  have ht : (l.take i).length = i := by rw [List.length_take]; omega
  rw [List.set_append_right _ _ (by omega), ht, Nat.sub_self, show l.length - i = (l.length - (i + 1)) + 1 by omega, List.replicate_succ, List.set_cons_zero, List.take_add_one, hx]
  simp
theorem fill_len {α : Type} (l : List α) (z : α) (i : Nat) (h : i ≤ l.length) : (l.take i ++ List.replicate (l.length - i) z).length = l.length := by
  simp only [List.length_append, List.length_take, List.length_replicate]
  omega
theorem fill_end {α : Type} (l : List α) (z : α) : l.take l.length ++ List.replicate (l.length - l.length) z = l := by simp
theorem rdOf_some {α : Type} {z : α} {l : List α} {i : Nat} (h : i < l.length) : l[i]? = some (rdOf z l (i : Int)) := by simp [rdOf, List.getD, h]
theorem rdOf_n {α : Type} (z : α) (l : List α) (i : Nat) : rdOf z l (i : Int) = l.getD i z := by simp [rdOf]
theorem getD_mem {α : Type} {z : α} {l : List α} {i : Nat} (h : i < l.length) : l.getD i z ∈ l := List.mem_of_getElem? (by simp [List.getD, h] : l[i]? = some (l.getD i z))

theorem toStringS_l0 (l : List ByteArray) (hl : l.length ≤ 1048576) (d : Nat) : ∀ i : Nat, i + d = l.length →
    Ev (fun k => laws_toStringS.l0 k l (l.take i ++ List.replicate (l.length - i) (⟨#[]⟩ : ByteArray)) (i : Int)) l := by
  induction d with
  | zero =>
    intro i hi
    refine Ev.next ?_
    simp only [laws_toStringS.l0]
    have hil : i = l.length := by omega
    subst hil
    exact Ev.neg (by omega) (Ev.ret (fill_end l _))
  | succ d ih =>
    intro i hi
    have e : wrap64 ((i : Int) + 1) = ((i + 1 : Nat) : Int) := by rw [wrap_ok (by omega)]; omega
    have hih := ih (i + 1) (by omega)
    have hlen := fill_len l (⟨#[]⟩ : ByteArray) i (by omega)
    refine Ev.next ?_
    simp only [laws_toStringS.l0, e, Int.toNat_natCast]
    clear e
    rw [fill_set l _ _ i (rdOf_some (by omega))]
    exact Ev.pos (by omega) (Ev.pos (by omega) (Ev.pos (by omega) hih))
theorem toStringS_ev (l : List ByteArray) (hl : l.length ≤ 1048576) : Ev (fun k => laws_toStringS.f k l) l := by
  have h := toStringS_l0 l hl l.length 0 (Nat.zero_add _)
  simp only [List.take_zero, List.nil_append, Nat.sub_zero] at h
  unfold laws_toStringS.f
  simp only [Int.toNat_natCast]
  exact Ev.pos (by omega) (Ev.pos (by omega) h)
theorem toBoolS_l0 (l : List Bool) (hl : l.length ≤ 1048576) (d : Nat) : ∀ i : Nat, i + d = l.length →
    Ev (fun k => laws_toBoolS.l0 k l (l.take i ++ List.replicate (l.length - i) false) (i : Int)) l := by
  induction d with
  | zero =>
    intro i hi
    refine Ev.next ?_
    simp only [laws_toBoolS.l0]
    have hil : i = l.length := by omega
    subst hil
    exact Ev.neg (by omega) (Ev.ret (fill_end l _))
  | succ d ih =>
    intro i hi
    have e : wrap64 ((i : Int) + 1) = ((i + 1 : Nat) : Int) := by rw [wrap_ok (by omega)]; omega
    have hih := ih (i + 1) (by omega)
    have hlen := fill_len l false i (by omega)
    refine Ev.next ?_
    simp only [laws_toBoolS.l0, e, Int.toNat_natCast]
    clear e
    rw [fill_set l _ _ i (rdOf_some (by omega))]
    exact Ev.pos (by omega) (Ev.pos (by omega) (Ev.pos (by omega) hih))
theorem toBoolS_ev (l : List Bool) (hl : l.length ≤ 1048576) : Ev (fun k => laws_toBoolS.f k l) l := by
  have h := toBoolS_l0 l hl l.length 0 (Nat.zero_add _)
  simp only [List.take_zero, List.nil_append, Nat.sub_zero] at h
  unfold laws_toBoolS.f
  simp only [Int.toNat_natCast]
  exact Ev.pos (by omega) (Ev.pos (by omega) h)
/-- A write of the laws as one of the program. -/
def pt (x : S65) : S54 := ⟨x.f0, x.f1, x.f2⟩
def pts (l : List S65) : List S54 := l.map pt
theorem pts_length (l : List S65) : (pts l).length = l.length := by simp [pts]
theorem pts_some {l : List S65} {i : Nat} (h : i < l.length) : (pts l)[i]? = some (⟨(rd_T65 l (i : Int)).f0, (rd_T65 l (i : Int)).f1, (rd_T65 l (i : Int)).f2⟩ : S54) := by
  simp [pts, pt, rd_T65, List.getD, h]
theorem toPutS_l0 (l : List S65) (hl : l.length ≤ 1048576) (d : Nat) : ∀ i : Nat, i + d = l.length →
    Ev (fun k => laws_toPutS.l0 k l ((pts l).take i ++ List.replicate ((pts l).length - i) z54) (i : Int)) (pts l) := by
  have hp := pts_length l
  induction d with
  | zero =>
    intro i hi
    refine Ev.next ?_
    simp only [laws_toPutS.l0]
    have hil : i = (pts l).length := by omega
    subst hil
    exact Ev.neg (by omega) (Ev.ret (fill_end (pts l) _))
  | succ d ih =>
    intro i hi
    have e : wrap64 ((i : Int) + 1) = ((i + 1 : Nat) : Int) := by rw [wrap_ok (by omega)]; omega
    have hih := ih (i + 1) (by omega)
    have hlen := fill_len (pts l) z54 i (by omega)
    refine Ev.next ?_
    simp only [laws_toPutS.l0, e, Int.toNat_natCast]
    clear e
    refine Ev.pos (by omega) (Ev.pos (by omega) (Ev.take rfl (Ev.pos (by omega) ?_)))
    rw [fill_set (pts l) _ _ i (pts_some (by omega))]
    exact hih
theorem toPutS_ev (l : List S65) (hl : l.length ≤ 1048576) : Ev (fun k => laws_toPutS.f k l) (pts l) := by
  have h := toPutS_l0 l hl l.length 0 (Nat.zero_add _)
  simp only [List.take_zero, List.nil_append, Nat.sub_zero, pts_length] at h
  unfold laws_toPutS.f
  simp only [Int.toNat_natCast]
  exact Ev.pos (by omega) (Ev.pos (by omega) h)
theorem eqStringS_l0 (l : List ByteArray) (hl : l.length ≤ 1048576) (d : Nat) : ∀ i : Nat, i + d = l.length → Ev (fun k => laws_eqStringS.l0 k l l (i : Int)) true := by
  induction d with
  | zero =>
    intro i hi
    refine Ev.next ?_
    simp only [laws_eqStringS.l0]
    exact Ev.neg (by omega) (Ev.ret rfl)
  | succ d ih =>
    intro i hi
    have e : wrap64 ((i : Int) + 1) = ((i + 1 : Nat) : Int) := by rw [wrap_ok (by omega)]; omega
    have hih := ih (i + 1) (by omega)
    refine Ev.next ?_
    simp only [laws_eqStringS.l0, e]
    clear e
    exact Ev.pos (by omega) (Ev.pos (by omega) (Ev.pos (by omega) (Ev.pos trivial hih)))
theorem eqStringS_ev (l : List ByteArray) (hl : l.length ≤ 1048576) : Ev (fun k => laws_eqStringS.f k l l) true := by
  unfold laws_eqStringS.f
  exact Ev.pos rfl (eqStringS_l0 l hl _ 0 (Nat.zero_add _))
theorem eqBoolS_l0 (l : List Bool) (hl : l.length ≤ 1048576) (d : Nat) : ∀ i : Nat, i + d = l.length → Ev (fun k => laws_eqBoolS.l0 k l l (i : Int)) true := by
  induction d with
  | zero =>
    intro i hi
    refine Ev.next ?_
    simp only [laws_eqBoolS.l0]
    exact Ev.neg (by omega) (Ev.ret rfl)
  | succ d ih =>
    intro i hi
    have e : wrap64 ((i : Int) + 1) = ((i + 1 : Nat) : Int) := by rw [wrap_ok (by omega)]; omega
    have hih := ih (i + 1) (by omega)
    refine Ev.next ?_
    simp only [laws_eqBoolS.l0, e]
    clear e
    exact Ev.pos (by omega) (Ev.pos (by omega) (Ev.pos (by omega) (Ev.neg (by simp) hih)))
theorem eqBoolS_ev (l : List Bool) (hl : l.length ≤ 1048576) : Ev (fun k => laws_eqBoolS.f k l l) true := by
  unfold laws_eqBoolS.f
  exact Ev.pos rfl (eqBoolS_l0 l hl _ 0 (Nat.zero_add _))
theorem eqPutS_l0 (l : List S54) (hl : l.length ≤ 1048576) (d : Nat) : ∀ i : Nat, i + d = l.length → Ev (fun k => laws_eqPutS.l0 k l l (i : Int)) true := by
  induction d with
  | zero =>
    intro i hi
    refine Ev.next ?_
    simp only [laws_eqPutS.l0]
    exact Ev.neg (by omega) (Ev.ret rfl)
  | succ d ih =>
    intro i hi
    have e : wrap64 ((i : Int) + 1) = ((i + 1 : Nat) : Int) := by rw [wrap_ok (by omega)]; omega
    have hih := ih (i + 1) (by omega)
    refine Ev.next ?_
    simp only [laws_eqPutS.l0, e]
    clear e
    exact Ev.pos (by omega) (Ev.pos (by omega) (Ev.pos (by omega) (Ev.take (a := true) (by simp [laws_eqPut.f]) (Ev.pos rfl hih))))
theorem eqPutS_ev (l : List S54) (hl : l.length ≤ 1048576) : Ev (fun k => laws_eqPutS.f k l l) true := by
  unfold laws_eqPutS.f
  exact Ev.pos rfl (eqPutS_l0 l hl _ 0 (Nat.zero_add _))

theorem szStringS_l0 (l : List ByteArray) (hl : l.length ≤ 1048576) (hs : ∀ x ∈ l, x.size ≤ maxLen) (d : Nat) : ∀ (i : Nat) (n : Int), i + d = l.length → 0 ≤ n → n ≤ 1048576 →
    ∃ t : Int, t ≤ 1048576 ∧ Ev (fun k => laws_szStringS.l0 k l n (i : Int)) t := by
  have hM : maxLen = 9223372036854775807 := by decide
  induction d with
  | zero =>
    intro i n hi _ _
    refine ⟨n, by omega, Ev.next ?_⟩
    simp only [laws_szStringS.l0]
    exact Ev.neg (by omega) (Ev.ret rfl)
  | succ d ih =>
    intro i n hi h0 h1
    have e : wrap64 ((i : Int) + 1) = ((i + 1 : Nat) : Int) := by rw [wrap_ok (by omega)]; omega
    have hz : (l.getD i ByteArray.empty).size ≤ maxLen := hs _ (getD_mem (by omega))
    have e2 : wrap64 (n - ((l.getD i ByteArray.empty).size : Int)) = n - ((l.getD i ByteArray.empty).size : Int) := wrap_ok (by omega)
    by_cases hneg : n - ((l.getD i ByteArray.empty).size : Int) < 0
    · refine ⟨-1, by omega, Ev.next ?_⟩
      simp only [laws_szStringS.l0, e, rdOf_n, e2]
      clear e e2
      exact Ev.pos (by omega) (Ev.pos (by omega) (Ev.pos hneg (Ev.ret rfl)))
    · obtain ⟨t, ht0, ht⟩ := ih (i + 1) (n - ((l.getD i ByteArray.empty).size : Int)) (by omega) (by omega) (by omega)
      refine ⟨t, ht0, Ev.next ?_⟩
      simp only [laws_szStringS.l0, e, rdOf_n, e2]
      clear e e2
      exact Ev.pos (by omega) (Ev.pos (by omega) (Ev.neg hneg ht))
theorem szStringS_ev (l : List ByteArray) (n : Int) (hn : 0 ≤ n ∧ n ≤ 1048576) (hl : l.length ≤ maxLen) (hs : ∀ x ∈ l, x.size ≤ maxLen) : ∃ t : Int, t ≤ 1048576 ∧ Ev (fun k => laws_szStringS.f k l n) t ∧ (¬ t < 0 → l.length ≤ 1048576) := by
  have hM : maxLen = 9223372036854775807 := by decide
  have e : wrap64 (n - (l.length : Int)) = n - (l.length : Int) := wrap_ok (by omega)
  unfold laws_szStringS.f
  simp only [e]
  clear e
  by_cases h : n - (l.length : Int) < 0
  · exact ⟨-1, by omega, Ev.pos h (Ev.ret rfl), by omega⟩
  · obtain ⟨t, ht0, ht⟩ := szStringS_l0 l (by omega) hs l.length 0 (n - (l.length : Int)) (Nat.zero_add _) (by omega) (by omega)
    exact ⟨t, ht0, Ev.neg h ht, by omega⟩
theorem szPutS_l0 (l : List S65) (hl : l.length ≤ 1048576) (hs : ∀ x ∈ l, x.f2.size ≤ maxLen) (d : Nat) : ∀ (i : Nat) (n : Int), i + d = l.length → 0 ≤ n → n ≤ 1048576 →
    ∃ t : Int, t ≤ 1048576 ∧ Ev (fun k => laws_szPutS.l0 k l n (i : Int)) t := by
  have hM : maxLen = 9223372036854775807 := by decide
  induction d with
  | zero =>
    intro i n hi _ _
    refine ⟨n, by omega, Ev.next ?_⟩
    simp only [laws_szPutS.l0]
    exact Ev.neg (by omega) (Ev.ret rfl)
  | succ d ih =>
    intro i n hi h0 h1
    have e : wrap64 ((i : Int) + 1) = ((i + 1 : Nat) : Int) := by rw [wrap_ok (by omega)]; omega
    have hz : (rd_T65 l (i : Int)).f2.size ≤ maxLen := by
      rw [show rd_T65 l (i : Int) = l.getD i z65 by simp [rd_T65]]
      exact hs _ (getD_mem (by omega))
    have e2 : wrap64 (n - ((rd_T65 l (i : Int)).f2.size : Int)) = n - ((rd_T65 l (i : Int)).f2.size : Int) := wrap_ok (by omega)
    by_cases hneg : n - ((rd_T65 l (i : Int)).f2.size : Int) < 0
    · refine ⟨-1, by omega, Ev.next ?_⟩
      simp only [laws_szPutS.l0, e]
      refine Ev.pos (by clear e e2; omega) (Ev.pos (by clear e e2; omega) (Ev.take (a := -1) (by unfold laws_szPut.f; rw [e2, if_pos hneg]) (Ev.pos (by clear e e2; omega) (Ev.ret rfl))))
    · obtain ⟨t, ht0, ht⟩ := ih (i + 1) (n - ((rd_T65 l (i : Int)).f2.size : Int)) (by omega) (by omega) (by omega)
      refine ⟨t, ht0, Ev.next ?_⟩
      simp only [laws_szPutS.l0, e]
      refine Ev.pos (by clear e e2; omega) (Ev.pos (by clear e e2; omega) (Ev.take (a := n - ((rd_T65 l (i : Int)).f2.size : Int)) (by unfold laws_szPut.f; rw [e2, if_neg hneg]) (Ev.neg hneg ht)))
theorem szPutS_ev (l : List S65) (n : Int) (hn : 0 ≤ n ∧ n ≤ 1048576) (hl : l.length ≤ maxLen) (hs : ∀ x ∈ l, x.f2.size ≤ maxLen) : ∃ t : Int, t ≤ 1048576 ∧ Ev (fun k => laws_szPutS.f k l n) t ∧ (¬ t < 0 → l.length ≤ 1048576) := by
  have hM : maxLen = 9223372036854775807 := by decide
  have e : wrap64 (n - (l.length : Int)) = n - (l.length : Int) := wrap_ok (by omega)
  unfold laws_szPutS.f
  simp only [e]
  clear e
  by_cases h : n - (l.length : Int) < 0
  · exact ⟨-1, by omega, Ev.pos h (Ev.ret rfl), by omega⟩
  · obtain ⟨t, ht0, ht⟩ := szPutS_l0 l (by omega) hs l.length 0 (n - (l.length : Int)) (Nat.zero_add _) (by omega) (by omega)
    exact ⟨t, ht0, Ev.neg h ht, by omega⟩
theorem szBoolS_eq (l : List Bool) (n : Int) (hn : 0 ≤ n ∧ n ≤ 1048576) (hl : l.length ≤ maxLen) : ∃ t : Int, t ≤ 1048576 ∧ laws_szBoolS.f l n = some t ∧ (¬ t < 0 → l.length ≤ 1048576) := by
  have hM : maxLen = 9223372036854775807 := by decide
  have e : wrap64 (n - (l.length : Int)) = n - (l.length : Int) := wrap_ok (by omega)
  unfold laws_szBoolS.f
  rw [e]
  by_cases h : n - (l.length : Int) < 0
  · exact ⟨-1, by omega, by rw [if_pos h], by omega⟩
  · exact ⟨n - (l.length : Int), by omega, by rw [if_neg h], by omega⟩

/-! ### disks -/
/-- The lists of a disk fit. -/
structure Fits (l1 l2 : List ByteArray) (l3 : List Bool) (n4 : Nat) : Prop where
  h1 : l1.length ≤ 1048576
  h2 : l2.length ≤ 1048576
  h3 : l3.length ≤ 1048576
  h4 : n4 ≤ 1048576
theorem szDisk_ev (st : Int) (l1 l2 : List ByteArray) (l3 : List Bool) (l4 : List S65) (n : Int) (hn : 0 ≤ n ∧ n ≤ 1048576) (w : Take.W39 ⟨st, l1, l2, l3, l4⟩) :
    ∃ t : Int, t ≤ 1048576 ∧ Ev (fun k => laws_szDisk.f k st l1 l2 l3 l4 n) t ∧ (¬ t < 0 → Fits l1 l2 l3 l4.length) := by
  obtain ⟨_, w1, w2, w3, w4⟩ := w
  obtain ⟨t1, b1, e1, f1⟩ := szStringS_ev l1 n hn w1.1 w1.2
  unfold laws_szDisk.f
  by_cases h1 : t1 < 0
  · exact ⟨-1, by omega, Ev.bind e1 (Ev.pos h1 (Ev.ret rfl)), by omega⟩
  · obtain ⟨t2, b2, e2, f2⟩ := szStringS_ev l2 t1 (by omega) w2.1 w2.2
    by_cases h2 : t2 < 0
    · exact ⟨-1, by omega, Ev.bind e1 (Ev.neg h1 (Ev.bind e2 (Ev.pos h2 (Ev.ret rfl)))), by omega⟩
    · obtain ⟨t3, b3, e3, f3⟩ := szBoolS_eq l3 t2 (by omega) w3.1
      by_cases h3 : t3 < 0
      · exact ⟨-1, by omega, Ev.bind e1 (Ev.neg h1 (Ev.bind e2 (Ev.neg h2 (Ev.take e3 (Ev.pos h3 (Ev.ret rfl)))))), by omega⟩
      · obtain ⟨t4, b4, e4, f4⟩ := szPutS_ev l4 t3 (by omega) w4.1 (fun x hx => (w4.2 x hx).2.2)
        by_cases h4 : t4 < 0
        · exact ⟨-1, by omega, Ev.bind e1 (Ev.neg h1 (Ev.bind e2 (Ev.neg h2 (Ev.take e3 (Ev.neg h3 (Ev.bind e4 (Ev.pos h4 (Ev.ret rfl)))))))), by omega⟩
        · exact ⟨t4, b4, Ev.bind e1 (Ev.neg h1 (Ev.bind e2 (Ev.neg h2 (Ev.take e3 (Ev.neg h3 (Ev.bind e4 (Ev.neg h4 (Ev.ret rfl)))))))), fun _ => ⟨f1 h1, f2 h2, f3 h3, f4 h4⟩⟩
theorem toDisk_ev (st : Int) (l1 l2 : List ByteArray) (l3 : List Bool) (l4 : List S65) (h : Fits l1 l2 l3 l4.length) : Ev (fun k => laws_toDisk.f k st l1 l2 l3 l4) (st, l1, l2, l3, pts l4) := by
  unfold laws_toDisk.f
  exact Ev.bind (toStringS_ev l1 h.h1) (Ev.bind (toStringS_ev l2 h.h2) (Ev.bind (toBoolS_ev l3 h.h3) (Ev.bind (toPutS_ev l4 h.h4) (Ev.ret rfl))))
theorem eqDisk_ev (st : Int) (l1 l2 : List ByteArray) (l3 : List Bool) (l4 : List S54) (h : Fits l1 l2 l3 l4.length) : Ev (fun k => laws_eqDisk.f k st l1 l2 l3 l4 st l1 l2 l3 l4) true := by
  unfold laws_eqDisk.f
  exact Ev.pos rfl (Ev.bind (eqStringS_ev l1 h.h1) (Ev.pos rfl (Ev.bind (eqStringS_ev l2 h.h2) (Ev.pos rfl (Ev.bind (eqBoolS_ev l3 h.h3) (Ev.pos rfl (Ev.bind (eqPutS_ev l4 h.h4) (Ev.pos rfl (Ev.ret rfl)))))))))
end Go.Proofs.Ytkgpnloghmbmlaa.Pure
