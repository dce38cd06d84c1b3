/- Plain: lists of places: weighed, copied, compared. Conditions: the lists fit (2^20 elements). -/
import Derived.Test.YtkoimmeghdbodaaPtr
import Derived.Test.YtkoimmeghdbodaaPrint2
import Derived.Test.YtkoimmeghdbodaaPrint4
import Derived.Test.YtkoimmeghdbodaaPrint9
import Derived.Test.YtkoimmeghdbodaaOpens
namespace Go.Proofs.Ytkoimmeghdbodaa.Pure
open Go.RowKit Go.Proofs.Ytkoimmeghdbodaa.Print Go.Proofs.YtkoimmeghdbodaaW.PrintWords

theorem fill_set {α : Type} (l : List α) (z x : α) (i : Nat) (hx : l[i]? = some x) : (l.take i ++ List.replicate (l.length - i) z).set i x = l.take (i + 1) ++ List.replicate (l.length - (i + 1)) z := by
  have hi : i < l.length := (List.getElem?_eq_some_iff.1 hx).1
  have ht : (l.take i).length = i := by rw [List.length_take]; omega
  rw [List.set_append_right _ _ (by omega), ht, Nat.sub_self, show l.length - i = (l.length - (i + 1)) + 1 by omega, List.replicate_succ, List.set_cons_zero, List.take_add_one, hx]
  simp
theorem fill_len {α : Type} (l : List α) (z : α) (i : Nat) (h : i ≤ l.length) : (l.take i ++ List.replicate (l.length - i) z).length = l.length := by
  simp only [List.length_append, List.length_take, List.length_replicate]
  omega
theorem fill_end {α : Type} (l : List α) (z : α) : l.take l.length ++ List.replicate (l.length - l.length) z = l := by simp

/-- A place of the laws as one of the program. -/
def pl (x : S94) : S37 := ⟨x.f0, x.f1⟩
def pls (l : List S94) : List S37 := l.map pl
theorem pls_length (l : List S94) : (pls l).length = l.length := by simp [pls]
theorem pls_some {l : List S94} {i : Nat} (h : i < l.length) : (pls l)[i]? = some (⟨(rd_T94 l (i : Int)).f0, (rd_T94 l (i : Int)).f1⟩ : S37) := by
  simp [pls, pl, rd_T94, List.getD, h]
theorem toPlaceS_l0 (l : List S94) (hl : l.length ≤ 1048576) (d : Nat) : ∀ i : Nat, i + d = l.length →
    Ev (fun k => laws_toPlaceS.l0 k l ((pls l).take i ++ List.replicate ((pls l).length - i) z37) (i : Int)) (pls l) := by
  have hp := pls_length l
  induction d with
  | zero =>
    intro i hi
    refine Ev.next ?_
    simp only [laws_toPlaceS.l0]
    have hil : i = (pls l).length := by omega
    subst hil
    exact Ev.neg (by omega) (Ev.ret (fill_end (pls l) _))
  | succ d ih =>
    intro i hi
    have e : wrap64 ((i : Int) + 1) = ((i + 1 : Nat) : Int) := by rw [wrap_ok (by omega)]; omega
    have hih := ih (i + 1) (by omega)
    have hlen := fill_len (pls l) z37 i (by omega)
    refine Ev.next ?_
    simp only [laws_toPlaceS.l0, e, Int.toNat_natCast]
    clear e
    refine Ev.pos (by omega) (Ev.pos (by omega) (Ev.take rfl (Ev.pos (by omega) ?_)))
    rw [fill_set (pls l) _ _ i (pls_some (by omega))]
    exact hih
theorem toPlaceS_ev (l : List S94) (hl : l.length ≤ 1048576) : Ev (fun k => laws_toPlaceS.f k l) (pls l) := by
  have h := toPlaceS_l0 l hl l.length 0 (Nat.zero_add _)
  simp only [List.take_zero, List.nil_append, Nat.sub_zero, pls_length] at h
  unfold laws_toPlaceS.f
  simp only [Int.toNat_natCast]
  exact Ev.pos (by omega) (Ev.pos (by omega) h)
theorem eqPlaceS_l0 (l : List S37) (hl : l.length ≤ 1048576) (d : Nat) : ∀ i : Nat, i + d = l.length → Ev (fun k => laws_eqPlaceS.l0 k l l (i : Int)) true := by
  induction d with
  | zero =>
    intro i hi
    refine Ev.next ?_
    simp only [laws_eqPlaceS.l0]
    exact Ev.neg (by omega) (Ev.ret rfl)
  | succ d ih =>
    intro i hi
    have e : wrap64 ((i : Int) + 1) = ((i + 1 : Nat) : Int) := by rw [wrap_ok (by omega)]; omega
    have hih := ih (i + 1) (by omega)
    refine Ev.next ?_
    simp only [laws_eqPlaceS.l0, e]
    clear e
    exact Ev.pos (by omega) (Ev.pos (by omega) (Ev.pos (by omega) (Ev.take (a := true) (by simp [laws_eqPlace.f]) (Ev.pos rfl hih))))
theorem eqPlaceS_ev (l : List S37) (hl : l.length ≤ 1048576) : Ev (fun k => laws_eqPlaceS.f k l l) true := by
  unfold laws_eqPlaceS.f
  exact Ev.pos rfl (eqPlaceS_l0 l hl _ 0 (Nat.zero_add _))
theorem eqPtr_ev (s m : Int) (l : List S37) (hl : l.length ≤ 1048576) : Ev (fun k => laws_eqPtr.f k s m l s m l) true := by
  unfold laws_eqPtr.f
  exact Ev.pos rfl (Ev.pos rfl (Ev.bind (eqPlaceS_ev l hl) (Ev.pos rfl (Ev.ret rfl))))
theorem szPlaceS_eq (l : List S94) (hl : l.length ≤ maxLen) : ∃ t : Int, laws_szPlaceS.f l 1048576 = some t ∧ (¬ t < 0 → l.length ≤ 1048576) := by
  have hM : maxLen = 9223372036854775807 := by decide
  have e : wrap64 (1048576 - (l.length : Int)) = 1048576 - (l.length : Int) := wrap_ok (by omega)
  unfold laws_szPlaceS.f
  rw [e]
  by_cases h : 1048576 - (l.length : Int) < 0
  · exact ⟨-1, by rw [if_pos h], by omega⟩
  · exact ⟨_, by rw [if_neg h], by omega⟩
end Go.Proofs.Ytkoimmeghdbodaa.Pure
