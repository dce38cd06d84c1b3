/- Proved: the law FnExactStripeOk answers true. Conditions: those of the statement's row alone. -/
import Derived.Test.YtkgpnloghmbmlaaDSpec
import Derived.Test.YtkgpnloghmbmlaaPrint19
namespace Go.Proofs.Ytkgpnloghmbmlaa.Pure
open Go.RowKit Go.Proofs.Ytkgpnloghmbmlaa.Print Go.Proofs.YtkgpnloghmbmlaaW.PrintWords
set_option linter.unusedSimpArgs false

/-- A disk of the laws as one of the program. -/
def pd (x : S39) : S28 := ⟨x.f0, x.f1, x.f2, x.f3, pts x.f4⟩
def pds (l : List S39) : List S28 := l.map pd
theorem pds_length (l : List S39) : (pds l).length = l.length := by simp [pds]
def FitsD (x : S39) : Prop := Fits x.f1 x.f2 x.f3 x.f4.length
def FitsE (x : S28) : Prop := Fits x.f1 x.f2 x.f3 x.f4.length
theorem rd39 (l : List S39) (i : Nat) : rd_T39 l (i : Int) = l.getD i z39 := by simp [rd_T39]
theorem rd28 (l : List S28) (i : Nat) : rd_T28 l (i : Int) = l.getD i z28 := by simp [rd_T28]
theorem pds_getD {l : List S39} {i : Nat} (h : i < l.length) : (pds l).getD i z28 = pd (l.getD i z39) := by simp [pds, List.getD, h]

theorem szDiskS_l0 (l : List S39) (hl : l.length ≤ 1048576) (hw : ∀ x ∈ l, Take.W39 x) (d : Nat) : ∀ (i : Nat) (n : Int), i + d = l.length → 0 ≤ n → n ≤ 1048576 →
    ∃ t : Int, Ev (fun k => laws_szDiskS.l0 k l n (i : Int)) t ∧ (¬ t < 0 → ∀ j, i ≤ j → j < l.length → FitsD (l.getD j z39)) := by
  induction d with
  | zero =>
    intro i n hi _ _
    refine ⟨n, Ev.next ?_, fun _ j _ _ => by omega⟩
    simp only [laws_szDiskS.l0]
    exact Ev.neg (by omega) (Ev.ret rfl)
  | succ d ih =>
    intro i n hi h0 h1
    have e : wrap64 ((i : Int) + 1) = ((i + 1 : Nat) : Int) := by rw [wrap_ok (by omega)]; omega
    have hx := hw _ (getD_mem (z := z39) (show i < l.length by omega))
    obtain ⟨t, b, ht, hf⟩ := szDisk_ev (l.getD i z39).f0 (l.getD i z39).f1 (l.getD i z39).f2 (l.getD i z39).f3 (l.getD i z39).f4 n ⟨h0, h1⟩ hx
    by_cases hneg : t < 0
    · refine ⟨-1, Ev.next ?_, fun h => absurd (by omega) h⟩
      simp only [laws_szDiskS.l0, e, rd39]
      clear e
      exact Ev.pos (by omega) (Ev.pos (by omega) (Ev.bind ht (Ev.pos hneg (Ev.ret rfl))))
    · obtain ⟨t2, ht2, hf2⟩ := ih (i + 1) t (by omega) (by omega) b
      refine ⟨t2, Ev.next ?_, fun h j h1 h2 => ?_⟩
      · simp only [laws_szDiskS.l0, e, rd39]
        clear e
        exact Ev.pos (by omega) (Ev.pos (by omega) (Ev.bind ht (Ev.neg hneg ht2)))
      · by_cases hj : j = i
        · rw [hj]; exact hf hneg
        · exact hf2 h j (by omega) h2
theorem szDiskS_ev (l : List S39) (hl : l.length ≤ maxLen) (hw : ∀ x ∈ l, Take.W39 x) : ∃ t : Int, Ev (fun k => laws_szDiskS.f k l 1048576) t ∧ (¬ t < 0 → l.length ≤ 1048576 ∧ ∀ j, j < l.length → FitsD (l.getD j z39)) := by
  have hM : maxLen = 9223372036854775807 := by decide
  have e : wrap64 (1048576 - (l.length : Int)) = 1048576 - (l.length : Int) := wrap_ok (by omega)
  unfold laws_szDiskS.f
  simp only [e]
  clear e
  by_cases h : 1048576 - (l.length : Int) < 0
  · exact ⟨-1, Ev.pos h (Ev.ret rfl), by omega⟩
  · obtain ⟨t, ht, hf⟩ := szDiskS_l0 l (by omega) hw l.length 0 (1048576 - (l.length : Int)) (Nat.zero_add _) (by omega) (by omega)
    exact ⟨t, Ev.neg h ht, fun hn => ⟨by omega, fun j hj => hf hn j (Nat.zero_le _) hj⟩⟩
theorem toDiskS_l0 (l : List S39) (hl : l.length ≤ 1048576) (hf : ∀ j, j < l.length → FitsD (l.getD j z39)) (d : Nat) : ∀ i : Nat, i + d = l.length →
    Ev (fun k => laws_toDiskS.l0 k l ((pds l).take i ++ List.replicate ((pds l).length - i) z28) (i : Int)) (pds l) := by
  have hp := pds_length l
  induction d with
  | zero =>
    intro i hi
    refine Ev.next ?_
    simp only [laws_toDiskS.l0]
    have hil : i = (pds l).length := by omega
    subst hil
    exact Ev.neg (by omega) (Ev.ret (fill_end (pds l) _))
  | succ d ih =>
    intro i hi
    have e : wrap64 ((i : Int) + 1) = ((i + 1 : Nat) : Int) := by rw [wrap_ok (by omega)]; omega
    have hih := ih (i + 1) (by omega)
    have hlen := fill_len (pds l) z28 i (by omega)
    have hd := toDisk_ev (l.getD i z39).f0 (l.getD i z39).f1 (l.getD i z39).f2 (l.getD i z39).f3 (l.getD i z39).f4 (hf i (by omega))
    have hx : (pds l)[i]? = some (pd (l.getD i z39)) := by
      have h2 : i < l.length := by omega
      simp [pds, List.getD, h2]
    refine Ev.next ?_
    simp only [laws_toDiskS.l0, e, rd39, Int.toNat_natCast]
    clear e
    refine Ev.pos (by omega) (Ev.pos (by omega) (Ev.bind hd (Ev.pos (by omega) ?_)))
    have hs := fill_set (pds l) z28 _ i hx
    simp only [pd] at hs
    rw [hs]
    exact hih
theorem toDiskS_ev (l : List S39) (hl : l.length ≤ 1048576) (hf : ∀ j, j < l.length → FitsD (l.getD j z39)) : Ev (fun k => laws_toDiskS.f k l) (pds l) := by
  have h := toDiskS_l0 l hl hf l.length 0 (Nat.zero_add _)
  simp only [List.take_zero, List.nil_append, Nat.sub_zero, pds_length] at h
  unfold laws_toDiskS.f
  simp only [Int.toNat_natCast]
  exact Ev.pos (by omega) (Ev.pos (by omega) h)
theorem eqDiskS_l0 (l : List S28) (hl : l.length ≤ 1048576) (hf : ∀ j, j < l.length → FitsE (l.getD j z28)) (d : Nat) : ∀ i : Nat, i + d = l.length → Ev (fun k => laws_eqDiskS.l0 k l l (i : Int)) true := by
  induction d with
  | zero =>
    intro i hi
    refine Ev.next ?_
    simp only [laws_eqDiskS.l0]
    exact Ev.neg (by omega) (Ev.ret rfl)
  | succ d ih =>
    intro i hi
    have e : wrap64 ((i : Int) + 1) = ((i + 1 : Nat) : Int) := by rw [wrap_ok (by omega)]; omega
    have hih := ih (i + 1) (by omega)
    have he := eqDisk_ev (l.getD i z28).f0 (l.getD i z28).f1 (l.getD i z28).f2 (l.getD i z28).f3 (l.getD i z28).f4 (hf i (by omega))
    refine Ev.next ?_
    simp only [laws_eqDiskS.l0, e, rd28]
    clear e
    exact Ev.pos (by omega) (Ev.pos (by omega) (Ev.pos (by omega) (Ev.bind he (Ev.pos rfl hih))))
theorem eqDiskS_ev (l : List S28) (hl : l.length ≤ 1048576) (hf : ∀ j, j < l.length → FitsE (l.getD j z28)) : Ev (fun k => laws_eqDiskS.f k l l) true := by
  unfold laws_eqDiskS.f
  exact Ev.pos rfl (eqDiskS_l0 l hl hf _ 0 (Nat.zero_add _))
def okD (x : S28) : Bool := goodB x.f0 x.f1 x.f2 x.f3 x.f4
theorem stripe_l0 (l : List S28) (hl : l.length ≤ 1048576) (hf : ∀ j, j < l.length → FitsE (l.getD j z28)) (d : Nat) : ∀ i : Nat, i + d = l.length →
    Ev (fun k => spec_StripeOk.l0 k l (i : Int)) (!((l.drop i).any fun x => !okD x) && decide (3 ≤ l.length ∧ l.length ≤ 4)) := by
  induction d with
  | zero =>
    intro i hi
    refine Ev.next ?_
    simp only [spec_StripeOk.l0]
    rw [List.drop_eq_nil_of_le (by omega)]
    refine Ev.neg (by omega) (Ev.take (a := decide (3 ≤ l.length ∧ l.length ≤ 4)) ?_ (Ev.ret (by simp)))
    unfold spec_l2Disks.f
    rw [l6In_eq]
    simp only [Option.bind_some]
    congr 1
    rw [Bool.eq_iff_iff, decide_eq_true_iff, decide_eq_true_iff]
    omega
  | succ d ih =>
    intro i hi
    have e : wrap64 ((i : Int) + 1) = ((i + 1 : Nat) : Int) := by rw [wrap_ok (by omega)]; omega
    have hi2 : i < l.length := by omega
    have hih := ih (i + 1) (by omega)
    have hs := specDiskOk_ev (l.getD i z28).f0 (l.getD i z28).f1 (l.getD i z28).f2 (l.getD i z28).f3 (l.getD i z28).f4 (hf i hi2).h4
    have hd : ((l.drop i).any fun x => !okD x) = (!okD (l.getD i z28) || (l.drop (i + 1)).any fun x => !okD x) := by
      rw [List.drop_eq_getElem_cons hi2, List.any_cons]
      simp [List.getD, hi2]
    rw [hd]
    refine Ev.next ?_
    simp only [spec_StripeOk.l0, e, rd28]
    clear e
    refine Ev.pos (by omega) (Ev.pos (by omega) (Ev.bind hs ?_))
    by_cases c : goodB (l.getD i z28).f0 (l.getD i z28).f1 (l.getD i z28).f2 (l.getD i z28).f3 (l.getD i z28).f4 = true
    · refine Ev.pos c ?_
      rw [show okD (l.getD i z28) = true from c]
      simpa using hih
    · refine Ev.neg c (Ev.ret ?_)
      rw [show okD (l.getD i z28) = false from by unfold okD; simpa using c]
      rfl
theorem FnExactStripeOk (l : List S39) (hw : Take.W44 l) : ∃ k, laws_FnExactStripeOk.f k l = some true := by
  apply Ev.rounds
  obtain ⟨t, ht, hf⟩ := szDiskS_ev l hw.1 hw.2
  unfold laws_FnExactStripeOk.f
  refine Ev.bind ht ?_
  by_cases h : t < 0
  · exact Ev.pos h (Ev.ret rfl)
  · obtain ⟨hl, hf⟩ := hf h
    have hl2 : (pds l).length ≤ 1048576 := by rw [pds_length]; exact hl
    have hf2 : ∀ j, j < (pds l).length → FitsE ((pds l).getD j z28) := fun j hj => by
      rw [pds_length] at hj
      rw [pds_getD hj]
      have := hf j hj
      exact ⟨this.h1, this.h2, this.h3, by simpa [pd, pts_length] using this.h4⟩
    have hd := toDiskS_ev l hl hf
    have hs : Ev (fun k => spec_StripeOk.f k (pds l)) (decide (3 ≤ (pds l).length ∧ (pds l).length ≤ 4) && !((pds l).any fun x : S28 => !goodB x.f0 x.f1 x.f2 x.f3 x.f4)) := by
      unfold spec_StripeOk.f
      have := stripe_l0 (pds l) hl2 hf2 (pds l).length 0 (Nat.zero_add _)
      rw [Bool.and_comm] at this
      simpa [okD] using this
    exact Ev.neg h (Ev.bind hd (Ev.bind hs (Ev.bind hd (Ev.take rfl (Ev.neg (by simp) (Ev.bind hd (Ev.bind (eqDiskS_ev (pds l) hl2 hf2) (Ev.pos rfl (Ev.ret rfl)))))))))
end Go.Proofs.Ytkgpnloghmbmlaa.Pure
