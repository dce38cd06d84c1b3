/- Proved: the law FnExactModelRead answers true. Conditions: those of the statement's row alone. -/
import Derived.Test.YtmfehjkcefpeoaaMBase
import Derived.Test.YtmfehjkcefpeoaaPrint12
namespace Go.Proofs.Ytmfehjkcefpeoaa.Pure
open Go.RowKit Go.Maps Go.Proofs.Ytmfehjkcefpeoaa.Print Go.Proofs.YtmfehjkcefpeoaaW.PrintWords Go.Proofs.YtmfehjkcefpeoaaW.PrintLast
set_option linter.unusedSimpArgs false
set_option linter.unusedVariables false

theorem lastN_some (l : List S39) (q : List UInt8) : ∀ (n k : Nat), lastN l q n = some k → k < n ∧ (l.getD k z39).f0.data.toList = q
  | 0, k, h => by cases h
  | n + 1, k, h => by
    rw [lastN] at h
    by_cases e : (l.getD n z39).f0.data.toList = q
    · rw [if_pos e] at h
      obtain rfl : n = k := by simpa using h
      exact ⟨by omega, e⟩
    · rw [if_neg e] at h
      have := lastN_some l q n k h
      exact ⟨by omega, this.2⟩
theorem lastN_none (l : List S39) (q : List UInt8) : ∀ (n : Nat), lastN l q n = none → ∀ j, j < n → (l.getD j z39).f0.data.toList ≠ q
  | 0, _, j, hj => by omega
  | n + 1, h, j, hj => by
    rw [lastN] at h
    by_cases e : (l.getD n z39).f0.data.toList = q
    · rw [if_pos e] at h
      cases h
    · rw [if_neg e] at h
      by_cases e2 : j = n
      · rw [e2]; exact e
      · exact lastN_none l q n h j (by omega)
theorem isN_iff (nm : ByteArray) (x : S39) : isN nm x = true ↔ x.f0.data.toList = nm.data.toList := by
  unfold isN
  rw [beq_iff_eq, ByteArray.toList_eq, ByteArray.toList_eq]
def readR (l : List S39) (nm : ByteArray) (a : Int) : ByteArray × Int := if modelB l = true then readD l nm a else ((⟨#[]⟩ : ByteArray), 4)
theorem specRead_ev (m : List S39) (hF : FitsM m) (nm : ByteArray) (a : Int) : Ev (fun k => spec_ModelRead.f k m nm a) (readR m nm a) := by
  have hl := hF.len
  unfold spec_ModelRead.f readR
  refine Ev.bind (specOk_ev m hF) ?_
  by_cases hok : modelB m = true
  · rw [if_pos hok]
    refine Ev.pos hok (Ev.bind (find_ev m hl nm) ?_)
    have hb := modelB_ok hok
    have hall : allOk m = true := by
      rw [modelB_eq, Bool.and_eq_true] at hok
      exact hok.2
    cases hlast : lastN m nm.data.toList m.length with
    | none =>
      have hn : findIxG (isN nm) m = -1 := findIxG_none (z := z39) fun j hj => by
        rw [Bool.eq_false_iff]
        intro h
        exact lastN_none m _ _ hlast j hj ((isN_iff nm _).1 h)
      have hr : readD m nm a = ((⟨#[]⟩ : ByteArray), 2) := by unfold readD; rw [hlast]
      rw [hn, hr]
      exact Ev.pos (by omega) (Ev.ret rfl)
    | some k =>
      obtain ⟨hk, hq⟩ := lastN_some m _ _ _ hlast
      have hkk := (allOk_iff m).1 hall k hk
      unfold okAt at hkk
      rw [Bool.and_eq_true, decide_eq_true_iff] at hkk
      have hn : findIxG (isN nm) m = (k : Int) := findIxG_at (z := z39) (fun j hj => by
        rw [Bool.eq_false_iff]
        intro h
        have h2 := hkk.2 j hj
        rw [Bool.eq_false_iff] at h2
        exact h2 ((isN_iff _ _).2 (((isN_iff nm _).1 h).trans hq.symm))) hk ((isN_iff nm _).2 hq)
      have h3 := hb.2 _ (getD_mem (z := z39) hk)
      rw [hn]
      refine Ev.neg (by omega) (Ev.take (l6In_eq _ _ _) ?_)
      by_cases hr : 0 ≤ a ∧ a ≤ 2
      · have e : readD m nm a = (rdOf ByteArray.empty (m.getD k z39).f1 a, 0) := by unfold readD; rw [hlast]; exact if_neg (by omega)
        rw [e]
        refine Ev.pos (decide_eq_true hr) (Ev.pos (by omega) (Ev.pos (by omega) (Ev.pos hr.1 (Ev.pos ?_ (Ev.ret ?_)))))
        · rw [rd39, h3]
          omega
        · rw [rd39]
      · have e : readD m nm a = ((⟨#[]⟩ : ByteArray), 4) := by unfold readD; rw [hlast]; exact if_pos (by omega)
        rw [e]
        exact Ev.neg (by rw [decide_eq_true_iff]; exact hr) (Ev.ret rfl)
  · rw [if_neg hok]
    exact Ev.neg hok (Ev.ret rfl)
theorem implRead_eq (m : List S39) (hF : FitsM m) (nm : ByteArray) (hn : nm.size ≤ maxLen) (a : Int) : impl_ModelRead.f m nm a = some (readR m nm a) := by
  unfold impl_ModelRead.f
  rw [if_pos ⟨List.all_eq_true.2 fun x hx => decide_eq_true (hF.names x hx), hn⟩]
  rfl
theorem FnExactModelRead (l : List S58) (nm : ByteArray) (a : Int) (w : l.length ≤ maxLen ∧ ∀ x ∈ l, Wf58 x) (hn : nm.size ≤ 140737488351232) (ha : (Lit.int .i64 a).wf = true) : ∃ k, laws_FnExactModelRead.f k l nm a = some true := by
  have hM : maxLen = 9223372036854775807 := by decide
  apply Ev.rounds
  unfold laws_FnExactModelRead.f
  by_cases h0 : (nm.size : Int) > 1048576
  · exact Ev.pos h0 (Ev.ret rfl)
  · obtain ⟨t, ht, hb⟩ := szModel_ev l w.1 w.2
    refine Ev.neg h0 (Ev.bind ht ?_)
    by_cases h : t < 0
    · exact Ev.pos h (Ev.ret rfl)
    · have hF := hb h
      have hC := hF.conv w.2
      refine Ev.neg h (Ev.bind (toModel_ev l hF) (Ev.bind (specRead_ev _ hC nm a) (Ev.bind (toModel_ev l hF) (Ev.take (implRead_eq _ hC nm (by omega) a) (Ev.pos rfl (Ev.next ?_))))))
      simp only [laws_FnExactModelRead.j0]
      exact Ev.neg (by simp) (Ev.bind (toModel_ev l hF) (Ev.bind (eqModel_ev _ hC) (Ev.pos rfl (Ev.ret rfl))))
end Go.Proofs.Ytmfehjkcefpeoaa.Pure
