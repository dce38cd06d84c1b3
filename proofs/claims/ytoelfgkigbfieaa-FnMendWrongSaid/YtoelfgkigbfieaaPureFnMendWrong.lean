/- Proved: the law FnMendWrong (a wrong column is found wrong) answers true. Conditions: those of the statement's row alone. -/
import Derived.Test.YtoelfgkigbfieaaDrawB
import Derived.Test.YtoelfgkigbfieaaChg
import Derived.Test.YtoelfgkigbfieaaPrint27
namespace Go.Proofs.Ytoelfgkigbfieaa.Pure
open Go.RowKit Go.Proofs.Ytoelfgkigbfieaa.Print Go.Proofs.YtoelfgkigbfieaaW.PrintWords

def unit3 (b : Nat) : ByteArray := chg zero3 b 5
theorem unit3_size (b : Nat) : (unit3 b).size = 3 := chg_size _ _ _
theorem five_byte : IsByte 5 := ⟨by omega, by omega⟩
theorem chg_X {s : ByteArray} (hs : s.size = 3) (b : Nat) (hb : b < 3) : chg s b 5 = X s (unit3 b) := by
  apply text_ext
  · rw [chg_size, X3 hs (unit3_size b), hs]
  · intro i _
    rw [bt_X, bt_chg s b 5 (by omega) five_byte, unit3, bt_chg zero3 b 5 hb five_byte, bt_zero3, bt_zero3]
    by_cases e : i = b
    · rw [if_pos e, if_pos e, zero_xb five_byte, e]
    · rw [if_neg e, if_neg e, xb_zero (bt_byte _ _)]
theorem pf_set {cols : List ByteArray} {a : Nat} {z : ByteArray} (ha : a < cols.length) (k : Nat) :
    (k ≤ a → pf (cols.set a z) k = pf cols k) ∧ (a < k → X (pf (cols.set a z) k) (colAt cols a) = X (pf cols k) z) := by
  induction k with
  | zero => exact ⟨fun _ => rfl, fun h => by omega⟩
  | succ k ih =>
    obtain ⟨h1, h2⟩ := ih
    constructor
    · intro hka
      simp only [pf]
      rw [h1 (by omega), colAt_set _ _ _ _ ha, if_neg (by omega)]
    · intro hka
      simp only [pf]
      rw [colAt_set _ _ _ _ ha]
      by_cases e : k = a
      · rw [if_pos e, h1 (by omega), e, X_assoc, X_comm z, ← X_assoc]
      · rw [if_neg e, X_assoc, X_comm (colAt cols k), ← X_assoc, h2 (by omega), X_assoc, X_comm z, ← X_assoc]
theorem mend_wrong {cols : List ByteArray} (hok : ParOk cols) (a b e : Nat) (ha : a < cols.length) (hb : b < cols.length) (hab : b ≠ a) (he : e < 3) :
    mendR (cols.set b (chg (colAt cols b) e 5)) (parR cols) (a : Int) = (chg (colAt cols a) e 5, true) := by
  have hsa := hok.cols3 a ha
  have hsb := hok.cols3 b hb
  have hu := unit3_size e
  have hps := pf_size hok.cols3 cols.length (Nat.le_refl _)
  rw [chg_X hsa e he, chg_X hsb e he, parR_ok hok]
  have hzs := X3 hsb hu
  have hC : Cols3 (cols.set b (X (colAt cols b) (unit3 e))) := fun k hk => by
    rw [List.length_set] at hk
    rw [colAt_set _ _ _ _ hb]
    by_cases e : k = b
    · rw [if_pos e]; exact hzs
    · rw [if_neg e]; exact hok.cols3 k hk
  have hn : (cols.set b (X (colAt cols b) (unit3 e))).length = cols.length := List.length_set ..
  have h1 := (pf_set (z := X (colAt cols b) (unit3 e)) hb cols.length).2 hb
  have hk := (mf_key (cols := cols.set b (X (colAt cols b) (unit3 e))) (a := a) hps cols.length (by omega)).2 ha
  rw [colAt_set _ _ _ _ hb, if_neg (fun h => hab h.symm)] at hk
  have hCs := pf_size hC cols.length (by omega)
  have hms := mf_size (a := a) (hC.others (a : Int)) hps cols.length (by omega)
  have hm : MendOk (cols.set b (X (colAt cols b) (unit3 e))) (pf cols cols.length) (a : Int) := ⟨by rw [hn]; exact hok.hi, by omega, by omega, hps, hC.others _⟩
  rw [mendR_ok hm, hn]
  congr 1
  have h2 : pf (cols.set b (X (colAt cols b) (unit3 e))) cols.length = X (pf cols cols.length) (unit3 e) := by
    have h3 := X_eq hCs hsb h1
    rw [h3, X_assoc, X_assoc, X_comm (unit3 e), ← X_assoc (colAt cols b), X_self3 hsb, X_comm zero3, X_zero3 hu]
  rw [h2, ← X_assoc, X_self3 hps, X_comm zero3, X_zero3 hu] at hk
  rw [X_eq hms hsa hk, X_comm]
theorem FnMendWrong : laws_FnMendWrong.Pure := by
  intro l l' _ _ hw hl' _ _
  apply Ev.rounds
  have early : Ev (fun k => laws_FnMendWrong.j0 k l l' true) true := by
    refine Ev.next ?_
    simp only [laws_FnMendWrong.j0]
    exact Ev.pos trivial (Ev.ret rfl)
  unfold laws_FnMendWrong.f
  refine Ev.ite (fun _ => early) (fun _ => Ev.next ?_)
  simp only [laws_FnMendWrong.j0]
  refine Ev.ite (fun _ => Ev.ret rfl) (fun hm => ?_)
  have hm : l'.length ≤ 1048576 := by simp at hm; omega
  obtain ⟨cols, hd, h1, h6⟩ := drawPar_ev l hw
  have main : ∀ c : Bool, (c = false → ParOk cols ∧ 2 ≤ cols.length) → Ev (fun k => laws_FnMendWrong.j1 k l' cols (parR cols) c) true := by
    intro c hc
    refine Ev.next ?_
    simp only [laws_FnMendWrong.j1]
    refine Ev.ite (fun _ => Ev.bind (specPar_ev cols (by omega)) (Ev.ret (by simp))) (fun h => ?_)
    obtain ⟨hok, hn2⟩ := hc (by simpa using h)
    have hn3 := hok.hi
    have hm1 := Int.emod_nonneg (l'.length : Int) (show (cols.length : Int) ≠ 0 by omega)
    have hm2 := Int.emod_lt_of_pos (l'.length : Int) (show (0 : Int) < (cols.length : Int) by omega)
    obtain ⟨a, ha⟩ := Int.eq_ofNat_of_zero_le hm1
    rw [ha] at hm2 ⊢
    have hd : 0 ≤ (l'.length : Int) / (cols.length : Int) ∧ (l'.length : Int) / (cols.length : Int) ≤ (l'.length : Int) := ⟨Int.ediv_nonneg (by omega) (by omega), Int.ediv_le_self _ (by omega)⟩
    generalize hq : (l'.length : Int) / (cols.length : Int) = q at hd
    have e1 : wrap64 ((a : Int) + 1) = (a : Int) + 1 := wrap_ok (by omega)
    have e2 : wrap64 q = q := wrap_ok (by omega)
    have hb := tmod_bd (x := (a : Int) + 1) (n := (cols.length : Int)) (by omega) (by omega)
    have hne : Int.tmod ((a : Int) + 1) (cols.length : Int) ≠ (a : Int) := by
      rw [Int.tmod_eq_emod_of_nonneg (by omega)]
      by_cases h : a + 1 = cols.length
      · rw [show ((a : Int) + 1) = (cols.length : Int) by omega, Int.emod_self]
        omega
      · rw [Int.emod_eq_of_lt (by omega) (by omega)]
        omega
    have he := tmod_bd (x := q) (n := 3) (by omega) (by omega)
    simp only [e1, e2]
    clear e1 e2
    obtain ⟨b, hbb⟩ := Int.eq_ofNat_of_zero_le hb.1
    obtain ⟨e, hee⟩ := Int.eq_ofNat_of_zero_le he.1
    rw [hbb] at hb hne
    rw [hee] at he
    simp only [hbb, hee, rdOf_nat, Int.toNat_natCast]
    have hs1 := hok.cols3 a (by omega)
    have hs2 := hok.cols3 b (by omega)
    refine Ev.neg (by omega) (Ev.take rfl (Ev.pos (by simp; omega) (Ev.take rfl ?_)))
    simp only [List.nil_append]
    refine Ev.pos (by omega) (Ev.pos (by omega) ?_)
    refine Ev.take (changed_eq (colAt cols b) e 5 (by omega) (by omega)) (Ev.bind (implMend_ev _ _ _) ?_)
    rw [mend_wrong hok a b e (by omega) (by omega) (by omega) (by omega)]
    exact Ev.pos rfl (Ev.pos (by omega) (Ev.pos (by omega) (Ev.take (changed_eq (colAt cols a) e 5 (by omega) (by omega)) (Ev.ret (by simp)))))
  refine Ev.bind hd (Ev.bind (implPar_ev cols) (Ev.bind (specPar_ev cols (by omega)) (Ev.pos rfl (Ev.ite (fun _ => main _ (fun h => by cases h)) (fun h => main _ (fun h' => ?_))))))
  refine ⟨Classical.byContradiction fun hx => h ((parR_nil cols).2 hx), ?_⟩
  simp at h'
  omega
end Go.Proofs.Ytoelfgkigbfieaa.Pure
