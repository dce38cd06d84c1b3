/- Proved: the law FnExactTextOf answers true. Conditions: those of the statement's row alone. -/
import Derived.Test.YtoelfgkigbfieaaDoorTText
import Derived.Test.YtoelfgkigbfieaaDoorPrint7
namespace Go.Proofs.YtoelfgkigbfieaaDoor.Pure
open Go.RowKit Go.Proofs.YtoelfgkigbfieaaDoor.Print Go.Proofs.YtoelfgkigbfieaaDoorW.PrintWords Go.Proofs.YtoelfgkigbfieaaDoorW.PrintLast
set_option linter.unusedSimpArgs false

theorem fill_set {α : Type} (l : List α) (z x : α) (i : Nat) (hx : l[i]? = some x) : (l.take i ++ List.replicate (l.length - i) z).set i x = l.take (i + 1) ++ List.replicate (l.length - (i + 1)) z := by
  have hi : i < l.length := (List.getElem?_eq_some_iff.1 hx).1
  have ht : (l.take i).length = i := by rw [List.length_take]; omega
  rw [List.set_append_right _ _ (by omega), ht, Nat.sub_self, show l.length - i = (l.length - (i + 1)) + 1 by omega, List.replicate_succ, List.set_cons_zero, List.take_add_one, hx]
  simp
theorem fill_len {α : Type} (l : List α) (z : α) (i : Nat) (h : i ≤ l.length) : (l.take i ++ List.replicate (l.length - i) z).length = l.length := by
  simp only [List.length_append, List.length_take, List.length_replicate]
  omega
theorem fill_end {α : Type} (l : List α) (z : α) : l.take l.length ++ List.replicate (l.length - l.length) z = l := by simp

theorem colAt_some {l : List ByteArray} {i : Nat} (h : i < l.length) : l[i]? = some (colAt l i) := by
  simp [colAt, List.getD, h]
theorem toStringS_l0 (l : List ByteArray) (hl : l.length ≤ 1048576) (d : Nat) : ∀ i : Nat, i + d = l.length →
    Ev (fun k => laws_toStringS.l0 k l (l.take i ++ List.replicate (l.length - i) (⟨#[]⟩ : ByteArray)) (i : Int)) l := by
  induction d with
  | zero =>
    intro i hi
    refine Ev.next ?_
    simp only [laws_toStringS.l0]
    have hil : i = l.length := by omega
    subst hil
    exact Ev.neg (by omega) (Ev.ret (fill_end l _))
  | succ d ih =>
    intro i hi
    have e : wrap64 ((i : Int) + 1) = ((i + 1 : Nat) : Int) := by rw [wrap_ok (by omega)]; omega
    have hih := ih (i + 1) (by omega)
    have hlen := fill_len l (⟨#[]⟩ : ByteArray) i (by omega)
    refine Ev.next ?_
    simp only [laws_toStringS.l0, e, rdOf_nat, Int.toNat_natCast]
    clear e
    rw [fill_set l _ _ i (colAt_some (by omega))]
    exact Ev.pos (by omega) (Ev.pos (by omega) (Ev.pos (by omega) hih))
theorem toStringS_ev (l : List ByteArray) (hl : l.length ≤ 1048576) : Ev (fun k => laws_toStringS.f k l) l := by
  have h := toStringS_l0 l hl l.length 0 (Nat.zero_add _)
  simp only [List.take_zero, List.nil_append, Nat.sub_zero] at h
  unfold laws_toStringS.f
  simp only [Int.toNat_natCast]
  exact Ev.pos (by omega) (Ev.pos (by omega) h)
theorem eqStringS_l0 (l : List ByteArray) (hl : l.length ≤ 1048576) (d : Nat) : ∀ i : Nat, i + d = l.length → Ev (fun k => laws_eqStringS.l0 k l l (i : Int)) true := by
  induction d with
  | zero =>
    intro i hi
    refine Ev.next ?_
    simp only [laws_eqStringS.l0]
    exact Ev.neg (by omega) (Ev.ret rfl)
  | succ d ih =>
    intro i hi
    have e : wrap64 ((i : Int) + 1) = ((i + 1 : Nat) : Int) := by rw [wrap_ok (by omega)]; omega
    have hih := ih (i + 1) (by omega)
    refine Ev.next ?_
    simp only [laws_eqStringS.l0, e]
    clear e
    exact Ev.pos (by omega) (Ev.pos (by omega) (Ev.pos (by omega) (Ev.pos trivial hih)))
theorem eqStringS_ev (l : List ByteArray) (hl : l.length ≤ 1048576) : Ev (fun k => laws_eqStringS.f k l l) true := by
  unfold laws_eqStringS.f
  exact Ev.pos rfl (eqStringS_l0 l hl _ 0 (Nat.zero_add _))
theorem szStringS_l0 (l : List ByteArray) (hl : l.length ≤ 1048576) (hs : ∀ x ∈ l, x.size ≤ maxLen) (d : Nat) : ∀ (i : Nat) (n : Int), i + d = l.length → 0 ≤ n → n ≤ 1048576 →
    ∃ t : Int, Ev (fun k => laws_szStringS.l0 k l n (i : Int)) t := by
  have hM : maxLen = 9223372036854775807 := by decide
  induction d with
  | zero =>
    intro i n hi _ _
    refine ⟨n, Ev.next ?_⟩
    simp only [laws_szStringS.l0]
    exact Ev.neg (by omega) (Ev.ret rfl)
  | succ d ih =>
    intro i n hi h0 h1
    have e : wrap64 ((i : Int) + 1) = ((i + 1 : Nat) : Int) := by rw [wrap_ok (by omega)]; omega
    have hz : (colAt l i).size ≤ maxLen := hs _ (List.mem_of_getElem? (colAt_some (by omega)))
    have e2 : wrap64 (n - ((colAt l i).size : Int)) = n - ((colAt l i).size : Int) := wrap_ok (by omega)
    by_cases hneg : n - ((colAt l i).size : Int) < 0
    · refine ⟨-1, Ev.next ?_⟩
      simp only [laws_szStringS.l0, e, rdOf_nat, e2]
      clear e e2
      exact Ev.pos (by omega) (Ev.pos (by omega) (Ev.pos hneg (Ev.ret rfl)))
    · obtain ⟨t, ht⟩ := ih (i + 1) (n - ((colAt l i).size : Int)) (by omega) (by omega) (by omega)
      refine ⟨t, Ev.next ?_⟩
      simp only [laws_szStringS.l0, e, rdOf_nat, e2]
      clear e e2
      exact Ev.pos (by omega) (Ev.pos (by omega) (Ev.neg hneg ht))
theorem szStringS_ev (l : List ByteArray) (hl : l.length ≤ maxLen) (hs : ∀ x ∈ l, x.size ≤ maxLen) : ∃ t : Int, Ev (fun k => laws_szStringS.f k l 1048576) t ∧ (¬ t < 0 → l.length ≤ 1048576) := by
  have hM : maxLen = 9223372036854775807 := by decide
  have e : wrap64 (1048576 - (l.length : Int)) = 1048576 - (l.length : Int) := wrap_ok (by omega)
  unfold laws_szStringS.f
  simp only [e]
  clear e
  by_cases h : 1048576 - (l.length : Int) < 0
  · exact ⟨-1, Ev.pos h (Ev.ret rfl), by omega⟩
  · obtain ⟨t, ht⟩ := szStringS_l0 l (by omega) hs l.length 0 (1048576 - (l.length : Int)) (Nat.zero_add _) (by omega) (by omega)
    exact ⟨t, Ev.neg h ht, by omega⟩
theorem FnExactTextOf (l : List ByteArray) (n : Int) (hl : l.length ≤ maxLen ∧ ∀ y ∈ l, y.size ≤ maxLen) (_hn : (Lit.int .i64 n).wf = true) : ∃ k, laws_FnExactTextOf.f k l n = some true := by
  apply Ev.rounds
  unfold laws_FnExactTextOf.f
  obtain ⟨t, ht, hb⟩ := szStringS_ev l hl.1 hl.2
  refine Ev.bind ht ?_
  by_cases h : t < 0
  · exact Ev.pos h (Ev.ret rfl)
  · have hL := hb h
    refine Ev.neg h (Ev.bind (toStringS_ev l hL) (Ev.bind (specText_ev l hL n) (Ev.bind (toStringS_ev l hL) (Ev.bind (implText_ev l hL n) (Ev.pos rfl (Ev.next ?_))))))
    simp only [laws_FnExactTextOf.j0]
    exact Ev.neg (by simp) (Ev.bind (toStringS_ev l hL) (Ev.bind (eqStringS_ev l hL) (Ev.pos rfl (Ev.ret rfl))))
end Go.Proofs.YtoelfgkigbfieaaDoor.Pure
