/- Plain: what is read of a disk, by the model: the same as by the program. Conditions: the lists fit (2^20 elements). -/
import Derived.Test.YtkgpnloghmbmlaaDSpec
import Derived.Test.YtkgpnloghmbmlaaExDiskRead
import Derived.Test.YtkgpnloghmbmlaaPrint13
namespace Go.Proofs.Ytkgpnloghmbmlaa.Pure
open Go.RowKit Go.Proofs.Ytkgpnloghmbmlaa.Print Go.Proofs.YtkgpnloghmbmlaaW.PrintWords
set_option linter.unusedSimpArgs false

/-! ### what is read -/
theorem read_l0 {a st : Int} {l1 l2 : List ByteArray} {l3 : List Bool} {l4 : List S54} (hl : l4.length ≤ 1048576) (d : Nat) : ∀ (i : Nat) (t : ByteArray), i + d = l4.length →
    Ev (fun k => spec_l3Read.l0 k a t (i : Int) st l1 l2 l3 l4) ((l4.drop i).foldl (seenStep a) t, ((l4.drop i).foldl (seenStep a) t).toList != []) := by
  induction d with
  | zero =>
    intro i t hi
    refine Ev.next ?_
    simp only [spec_l3Read.l0]
    refine Ev.neg (by omega) (Ev.ret ?_)
    rw [List.drop_eq_nil_of_le (by omega)]
    rfl
  | succ d ih =>
    intro i t hi
    have e : wrap64 ((i : Int) + 1) = ((i + 1 : Nat) : Int) := by rw [wrap_ok (by omega)]; omega
    have hi2 : i < l4.length := by omega
    have hd : (l4.drop i).foldl (seenStep a) t = (l4.drop (i + 1)).foldl (seenStep a) (seenStep a t (rd_T54 l4 (i : Int))) := by
      rw [List.drop_eq_getElem_cons hi2, List.foldl_cons]
      simp [rd_T54, List.getD, hi2]
    rw [hd]
    have hih := ih (i + 1) (seenStep a t (rd_T54 l4 (i : Int))) (by omega)
    refine Ev.next ?_
    simp only [spec_l3Read.l0, e]
    clear e
    refine Ev.pos (by omega) (Ev.pos (by omega) ?_)
    by_cases c1 : (rd_T54 l4 (i : Int)).f0 = true
    · refine Ev.pos c1 ?_
      rw [show seenStep a t (rd_T54 l4 (i : Int)) = t from by unfold seenStep; rw [if_neg (fun h => by rw [c1] at h; cases h.1)]] at hih ⊢
      exact hih
    · refine Ev.neg c1 ?_
      have c1' : (rd_T54 l4 (i : Int)).f0 = false := by simpa using c1
      by_cases c2 : (rd_T54 l4 (i : Int)).f1 = a
      · refine Ev.pos c2 ?_
        rw [show seenStep a t (rd_T54 l4 (i : Int)) = (rd_T54 l4 (i : Int)).f2 from by unfold seenStep; rw [if_pos ⟨c1', c2⟩]] at hih ⊢
        exact hih
      · refine Ev.neg c2 ?_
        rw [show seenStep a t (rd_T54 l4 (i : Int)) = t from by unfold seenStep; rw [if_neg (fun h => c2 h.2)]] at hih ⊢
        exact hih
theorem implRead_eq (st : Int) (l1 l2 : List ByteArray) (l3 : List Bool) (l4 : List S54) (a : Int) : ∃ r : ByteArray × Bool, impl_DiskRead.f st l1 l2 l3 l4 a = some r ∧ ∀ _ : l4.length ≤ 1048576, Ev (fun k => spec_DiskRead.f k st l1 l2 l3 l4 a) r := by
  refine ⟨_, rfl, fun hl => ?_⟩
  unfold spec_DiskRead.f
  by_cases hg : Print.Good st l1 l2 l3 l4
  · refine Ev.bind (specDiskOk_ev st l1 l2 l3 l4 hl) (Ev.pos (decide_eq_true hg) (Ev.take (l6In_eq _ _ _) ?_))
    by_cases ha : 0 ≤ a ∧ a ≤ 11
    · refine Ev.pos (decide_eq_true ha) ?_
      rw [if_pos ⟨hg, by omega, by omega⟩]
      obtain ⟨n, rfl⟩ : ∃ n : Nat, a = (n : Int) := ⟨a.toNat, by omega⟩
      rw [Int.toNat_natCast]
      have hn : n < 12 := by omega
      have hl1 : l1.length = 12 := hg.sh.2.1
      have key : Ev (fun k => spec_l3Read.f k st l1 l2 l3 l4 (n : Int)) (seenF l1 l4 n, (seenF l1 l4 n).toList != []) := by
        unfold spec_l3Read.f
        by_cases h1 : st = 1
        · refine Ev.pos h1 (Ev.ret ?_)
          have hz : l4 = [] := List.eq_nil_of_length_eq_zero (hg.go h1).2.2
          have hs : (l1.getD n ByteArray.empty).size = 0 := by simpa using (all_getD (z := ByteArray.empty)).1 (hg.go h1).1 n (by omega)
          have he : l1.getD n ByteArray.empty = ⟨#[]⟩ := ByteArray.ext (Array.eq_empty_of_size_eq_zero hs)
          rw [hz]
          simp only [seenF, List.foldl_nil, he]
          simp [ByteArray.toList_eq]
        · refine Ev.neg h1 (Ev.pos (by omega) (Ev.pos (by omega) ?_))
          have := read_l0 (a := (n : Int)) (st := st) (l1 := l1) (l2 := l2) (l3 := l3) hl l4.length 0 (l1.getD n ByteArray.empty) (Nat.zero_add _)
          rw [rdOf_n]
          exact this
      exact Ev.bind key (Ev.ret rfl)
    · refine Ev.neg (by simpa using ha) (Ev.ret ?_)
      rw [if_neg (by omega)]
  · refine Ev.bind (specDiskOk_ev st l1 l2 l3 l4 hl) (Ev.neg (by unfold goodB; rw [decide_eq_false hg]; decide) (Ev.ret ?_))
    rw [if_neg (fun h => hg h.1)]
end Go.Proofs.Ytkgpnloghmbmlaa.Pure
