/- Proved, with what follows on it: the row of the law FnExactDiskSpoil. Conditions: the row's alone. Texts of this session and words that the kit's print laid for this seat, merged and cut by shrink.py, a program of this session. -/
import Derived.Below
import Derived.ChangeOld
import Derived.OpenShut
import Derived.ProofKit
import Derived.ShutString
import Derived.SizedLaws
import Derived.WalkKit
import Derived.Test.YtkgpnloghmbmlaaRows
import Derived.Test.YtkgpnloghmbmlaaZFnExactDiskSpoilD
namespace Go.Proofs.Ytkgpnloghmbmlaa.Print
open Go.RowKit Go.Proofs.YtkgpnloghmbmlaaW.PrintWords Go.Proofs.YtkgpnloghmbmlaaW.PrintLast Go.Proofs.YtkgpnloghmbmlaaW.PrintMore Go.Proofs.Ytkgpnloghmbmlaa.Drv Go.Proofs.Ytkgpnloghmbmlaa.Hd
set_option linter.unusedVariables false
set_option linter.unusedSimpArgs false
theorem addN (b i j : Nat) : (⟨b, i, none⟩ : Addr).add j = ⟨b, i + j, none⟩ := by unfold Addr.add; split <;> simp_all
theorem drv_two {W : World} {g : Nat} {st : Int} {sp : List Bool} {sl rg : List ByteArray} {ns : List (Nat × Pt)} {a : Nat} {tx : ByteArray} {bs : Bool} (h : Drv W g st sp sl rg ns) (ha : a < 12) (htx : tx = sl.getD a ByteArray.empty) (hbs : bs = sp.getD a false) :
    W.cell? ⟨g, 13 + a, none⟩ = some (.string tx) ∧ W.cell? ((⟨g, 13, none⟩ : Addr).add a) = some (.string tx) ∧ W.cell? ⟨g, 1 + a, none⟩ = some (.bool bs) ∧ W.cell? ((⟨g, 1, none⟩ : Addr).add a) = some (.bool bs) := by
  have h1 : W.cell? ⟨g, 13 + a, none⟩ = some (.string tx) := by rw [htx]; exact (zq4 h.blk (13 + a)).trans (dc_sl h.lsp h.lsl ha)
  have h2 : W.cell? ⟨g, 1 + a, none⟩ = some (.bool bs) := by rw [hbs]; exact (zq4 h.blk (1 + a)).trans (dc_sp h.lsp ha)
  exact ⟨h1, by rw [addN]; exact h1, h2, by rw [addN]; exact h2⟩
theorem drv_two' {W : World} {g : Nat} {st : Int} {sp : List Bool} {sl rg : List ByteArray} {fi : Value} {a : Nat} {tx : ByteArray} {bs : Bool} (h : W.heap[g]? = some (.cells (dcells st sp sl rg fi) 80 (0, 0))) (hsp : sp.length = 12) (hsl : sl.length = 12) (ha : a < 12) (htx : tx = sl.getD a ByteArray.empty) (hbs : bs = sp.getD a false) :
    W.cell? ⟨g, 13 + a, none⟩ = some (.string tx) ∧ W.cell? ((⟨g, 13, none⟩ : Addr).add a) = some (.string tx) ∧ W.cell? ⟨g, 1 + a, none⟩ = some (.bool bs) ∧ W.cell? ((⟨g, 1, none⟩ : Addr).add a) = some (.bool bs) := by
  have h1 : W.cell? ⟨g, 13 + a, none⟩ = some (.string tx) := by rw [htx]; exact (zq4 h (13 + a)).trans (dc_sl hsp hsl ha)
  have h2 : W.cell? ⟨g, 1 + a, none⟩ = some (.bool bs) := by rw [hbs]; exact (zq4 h (1 + a)).trans (dc_sp hsp ha)
  exact ⟨h1, by rw [addN]; exact h1, h2, by rw [addN]; exact h2⟩
theorem cap_keep {w W : World} {g ga : Nat} {v : Value} (h : Below g w W) (hg : ga < g) (hc : w.cell? ⟨ga, 0, none⟩ = some v) : W.cell? ⟨ga, 0, none⟩ = some v := (h.cell (p := ⟨ga, 0, none⟩) hg).trans hc
theorem hd_drv {w : World} {g : Nat} {st : Int} {sp : List Bool} {sl rg : List ByteArray} {ns : List (Nat × Pt)} (h : Drv w g st sp sl rg ns) : Hd g w w [.box g (dcells st sp sl rg (toN ns (.pointer none))) 80, .same (g + 1) w.heap.size w] :=
  ⟨Below.refl _ _, Nat.le_of_lt (blk_lt h.blk), fun p hp => (by
    rcases List.mem_cons.1 hp with rfl | hp
    · exact ⟨Nat.le_refl _, blk_lt h.blk, h.blk⟩
    · rcases List.mem_cons.1 hp with rfl | hp
      · exact ⟨Nat.le_succ _, Nat.le_refl _, fun _ _ _ => rfl⟩
      · cases hp), List.pairwise_cons.2 ⟨fun q hq => (by
    rcases List.mem_cons.1 hq with rfl | hq
    · exact .inl (Nat.le_refl _)
    · cases hq), List.pairwise_cons.2 ⟨fun _ h => (by cases h), List.Pairwise.nil⟩⟩⟩
set_option maxHeartbeats 8000000 in
set_option maxRecDepth 100000 in
theorem spoilFn_same (g ga gb gc : Nat) (st : Int) (sp : List Bool) (sl rg : List ByteArray) (ns : List (Nat × Pt)) (a b : Nat) (by_ : Int) (w : World) (hD : Drv w g st sp sl rg ns) (ha : a < 12) (hb3 : b < 3) (hby : 1 ≤ by_ ∧ by_ ≤ 255)
    (hca : w.cell? ⟨ga, 0, none⟩ = some (.int .i64 (a : Int))) (hcb : w.cell? ⟨gb, 0, none⟩ = some (.int .i64 (b : Int))) (hcc : w.cell? ⟨gc, 0, none⟩ = some (.int .i64 by_)) (hz : (sl.getD a ByteArray.empty).toList.isEmpty = true ∨ ((sl.getD a ByteArray.empty).toList.isEmpty = false ∧ sp.getD a false = true)) :
    Calls Try.prog 86 #[.pointer (some ⟨g, 0, none⟩), .pointer (some ⟨ga, 0, none⟩), .pointer (some ⟨gb, 0, none⟩), .pointer (some ⟨gc, 0, none⟩)] w fun e w' => e = .returned (.bool true) ∧ Drv w' g st sp sl rg ns ∧ Below g w w' := by
  have hu80 := Try.underlying80
  have hu75 := Try.underlying75
  have hu76 := Try.underlying76
  have hu73 := Try.underlying73
  obtain ⟨tx, htx⟩ : ∃ t, t = sl.getD a ByteArray.empty := ⟨_, rfl⟩
  obtain ⟨bs, hbs⟩ : ∃ t, t = sp.getD a false := ⟨_, rfl⟩
  rw [← htx] at hz
  try rw [← hbs] at hz
  have HX := Az.mk (fun (W : World) (h : Drv W g st sp sl rg ns) => drv_two h ha htx hbs)
  have a0 := eq_true (show (0 : Int) ≤ (a : Int) by omega)
  have a1 := eq_true (show (a : Int) < 12 by omega)
  have l1 := eq_false (show ¬ (a : Int) < 0 by omega)
  have l2 := eq_false (show ¬ (12 : Int) ≤ (a : Int) by omega)
  have l3 := eq_false (show ¬ (b : Int) < 0 by omega)
  have l4 := eq_false (show ¬ (3 : Int) ≤ (b : Int) by omega)
  have l5 := eq_false (show ¬ by_ < 1 by omega)
  have l6 := eq_false (show ¬ (255 : Int) < by_ by omega)
  have HD := Az.mk hD
  have HA := Az.mk ha
  have HCA := Az.mk hca
  have HCB := Az.mk hcb
  have HCC := Az.mk hcc
  have HTX := Az.mk htx
  have HBS := Az.mk hbs
  have HGL := Az.mk (Nat.le_of_lt (blk_lt hD.blk))
  clear hD ha hby htx hbs
  rcases hz with hne | ⟨hne, hsp⟩
  · clear hb3
    go_enter Try.func86, Try.ntmps86
    go_wp2
    refine start_ (n := 16) (S := fun w' => w'.cell? ⟨ga, 0, none⟩ = some (.int .i64 (a : Int)) ∧ w'.cell? ⟨gb, 0, none⟩ = some (.int .i64 (b : Int)) ∧ w'.cell? ⟨gc, 0, none⟩ = some (.int .i64 by_) ∧ w'.cell? ⟨g, 13 + a, none⟩ = some (.string tx) ∧ w'.cell? ((⟨g, 13, none⟩ : Addr).add a) = some (.string tx) ∧ w'.cell? ⟨g, 1 + a, none⟩ = some (.bool bs) ∧ w'.cell? ((⟨g, 1, none⟩ : Addr).add a) = some (.bool bs)) (ds := []) #[false, false, false, false, false, false, false, false, false, false, false, false, false, false, false, false] (by kernel_rfl) rfl rfl (⟨HCA.out, HCB.out, HCC.out, (HX.out w HD.out).1, (HX.out w HD.out).2.1, (HX.out w HD.out).2.2.1, (HX.out w HD.out).2.2.2⟩) (fun hHeld => ?_)
    refine zqp (i := 0) (N := some 29) (v := ?_) (a' := ?_) #[true, false, false, false, false, false, false, false, false, false, false, false, false, false, false, false] rfl rfl (by kernel_rfl) (fun _ _ _ h => h) (Or.inl ⟨by rfl, ?_⟩) ?_ ?_
    rotate_left
    · intro w'
      go_simp
      with_reducible rfl
    rotate_left
    · simp only [Act.put, List.setIfInBounds_toArray, List.set_cons_zero, List.set_cons_succ, i64_w, i32_w]
      rfl
    refine zqp (i := 2) (N := some 31) (v := ?_) (a' := ?_) #[true, false, true, false, false, false, false, false, false, false, false, false, false, false, false, false] rfl rfl (by kernel_rfl) (fun _ _ _ h => h) (Or.inl ⟨by rfl, ?_⟩) ?_ ?_
    rotate_left
    · intro w'
      go_simp
      with_reducible rfl
    rotate_left
    · simp only [Act.put, List.setIfInBounds_toArray, List.set_cons_zero, List.set_cons_succ, i64_w, i32_w]
      rfl
    refine zqp (i := 3) (N := some 32) (v := ?_) (a' := ?_) #[true, false, true, true, false, false, false, false, false, false, false, false, false, false, false, false] rfl rfl (by kernel_rfl) (fun _ _ _ h => h) (Or.inl ⟨by rfl, ?_⟩) ?_ ?_
    rotate_left
    · intro w'
      go_simp
      with_reducible rfl
    rotate_left
    · simp only [Act.put, List.setIfInBounds_toArray, List.set_cons_zero, List.set_cons_succ, i64_w, i32_w]
      rfl
    refine zqt (i := 1) (N := some 30) (v := ?_) (a' := ?_) #[true, true, true, true, false, false, false, false, false, false, false, false, false, false, false, false] rfl rfl (by kernel_rfl) (fun _ _ _ h => h) (Or.inl ⟨by rfl, ?_⟩) hHeld ?_ ?_
    rotate_left
    · rintro w' ⟨s0, s1, s2, s3, s4, s5, s6⟩
      go_simp
      with_reducible rfl
    rotate_left
    · simp only [Act.put, List.setIfInBounds_toArray, List.set_cons_zero, List.set_cons_succ, i64_w, i32_w]
      rfl
    refine zqp (i := 4) (N := some 33) (v := ?_) (a' := ?_) #[true, true, true, true, true, false, false, false, false, false, false, false, false, false, false, false] rfl rfl (by kernel_rfl) (fun _ _ _ h => h) (Or.inl ⟨by rfl, ?_⟩) ?_ ?_
    rotate_left
    · intro w'
      go_simp
      with_reducible rfl
    rotate_left
    · simp only [Act.put, List.setIfInBounds_toArray, List.set_cons_zero, List.set_cons_succ, i64_w, i32_w]
      rfl
    refine zqt (i := 5) (N := some 34) (v := ?_) (a' := ?_) #[true, true, true, true, true, true, false, false, false, false, false, false, false, false, false, false] rfl rfl (by kernel_rfl) (fun _ _ _ h => h) (Or.inl ⟨by rfl, ?_⟩) hHeld ?_ ?_
    rotate_left
    · rintro w' ⟨s0, s1, s2, s3, s4, s5, s6⟩
      go_simp
      with_reducible rfl
    rotate_left
    · simp only [Act.put, List.setIfInBounds_toArray, List.set_cons_zero, List.set_cons_succ, i64_w, i32_w]
      rfl
    refine zqp (i := 6) (N := some 35) (v := ?_) (a' := ?_) #[true, true, true, true, true, true, true, false, false, false, false, false, false, false, false, false] rfl rfl (by kernel_rfl) (fun _ _ _ h => h) (Or.inl ⟨by rfl, ?_⟩) ?_ ?_
    rotate_left
    · intro w'
      go_simp
      with_reducible rfl
    rotate_left
    · simp only [Act.put, List.setIfInBounds_toArray, List.set_cons_zero, List.set_cons_succ, i64_w, i32_w]
      rfl
    refine zqp (i := 7) (N := some 36) (v := ?_) (a' := ?_) #[true, true, true, true, true, true, true, true, false, false, false, false, false, false, false, false] rfl rfl (by kernel_rfl) (fun _ _ _ h => h) (Or.inl ⟨by rfl, ?_⟩) ?_ ?_
    rotate_left
    · intro w'
      go_simp
      with_reducible rfl
    rotate_left
    · simp only [Act.put, List.setIfInBounds_toArray, List.set_cons_zero, List.set_cons_succ, i64_w, i32_w]
      rfl
    refine zqp (i := 8) (N := some 37) (v := undef) (a' := ?_) #[true, true, true, true, true, true, true, true, true, false, false, false, false, false, false, false] rfl rfl (by kernel_rfl) (fun _ _ _ h => h) (Or.inr ⟨by rfl, rfl⟩) ?_ ?_
    rotate_left
    · simp only [Act.put, List.setIfInBounds_toArray, List.set_cons_zero, List.set_cons_succ, i64_w, i32_w]
      rfl
    refine zqp (i := 9) (N := some 38) (v := undef) (a' := ?_) #[true, true, true, true, true, true, true, true, true, true, false, false, false, false, false, false] rfl rfl (by kernel_rfl) (fun _ _ _ h => h) (Or.inr ⟨by rfl, rfl⟩) ?_ ?_
    rotate_left
    · simp only [Act.put, List.setIfInBounds_toArray, List.set_cons_zero, List.set_cons_succ, i64_w, i32_w]
      rfl
    refine zqp (i := 10) (N := some 39) (v := undef) (a' := ?_) #[true, true, true, true, true, true, true, true, true, true, true, false, false, false, false, false] rfl rfl (by kernel_rfl) (fun _ _ _ h => h) (Or.inr ⟨by rfl, rfl⟩) ?_ ?_
    rotate_left
    · simp only [Act.put, List.setIfInBounds_toArray, List.set_cons_zero, List.set_cons_succ, i64_w, i32_w]
      rfl
    refine zqp (i := 11) (N := some 40) (v := undef) (a' := ?_) #[true, true, true, true, true, true, true, true, true, true, true, true, false, false, false, false] rfl rfl (by kernel_rfl) (fun _ _ _ h => h) (Or.inr ⟨by rfl, rfl⟩) ?_ ?_
    rotate_left
    · simp only [Act.put, List.setIfInBounds_toArray, List.set_cons_zero, List.set_cons_succ, i64_w, i32_w]
      rfl
    refine zqp (i := 12) (N := some 41) (v := undef) (a' := ?_) #[true, true, true, true, true, true, true, true, true, true, true, true, true, false, false, false] rfl rfl (by kernel_rfl) (fun _ _ _ h => h) (Or.inr ⟨by rfl, rfl⟩) ?_ ?_
    rotate_left
    · simp only [Act.put, List.setIfInBounds_toArray, List.set_cons_zero, List.set_cons_succ, i64_w, i32_w]
      rfl
    refine zqp (i := 13) (N := some 42) (v := undef) (a' := ?_) #[true, true, true, true, true, true, true, true, true, true, true, true, true, true, false, false] rfl rfl (by kernel_rfl) (fun _ _ _ h => h) (Or.inr ⟨by rfl, rfl⟩) ?_ ?_
    rotate_left
    · simp only [Act.put, List.setIfInBounds_toArray, List.set_cons_zero, List.set_cons_succ, i64_w, i32_w]
      rfl
    refine zqp (i := 14) (N := some 43) (v := undef) (a' := ?_) #[true, true, true, true, true, true, true, true, true, true, true, true, true, true, true, false] rfl rfl (by kernel_rfl) (fun _ _ _ h => h) (Or.inr ⟨by rfl, rfl⟩) ?_ ?_
    rotate_left
    · simp only [Act.put, List.setIfInBounds_toArray, List.set_cons_zero, List.set_cons_succ, i64_w, i32_w]
      rfl
    refine zqp (i := 15) (N := some 44) (v := ?_) (a' := ?_) #[true, true, true, true, true, true, true, true, true, true, true, true, true, true, true, true] rfl rfl (by kernel_rfl) (fun _ _ _ h => h) (Or.inl ⟨by rfl, ?_⟩) ?_ ?_
    rotate_left
    · intro w'
      go_simp
      with_reducible rfl
    rotate_left
    · simp only [Act.put, List.setIfInBounds_toArray, List.set_cons_zero, List.set_cons_succ, i64_w, i32_w]
      rfl
    refine done_ (by kernel_rfl) ?_
    go_wp2
    go_ret
    exact ⟨rfl, drv_drew HD.out, below_drew1 (Below.refl _ _)⟩
  · clear hb3
    subst hsp
    go_enter Try.func86, Try.ntmps86
    go_wp2
    refine start_ (n := 16) (S := fun w' => w'.cell? ⟨ga, 0, none⟩ = some (.int .i64 (a : Int)) ∧ w'.cell? ⟨gb, 0, none⟩ = some (.int .i64 (b : Int)) ∧ w'.cell? ⟨gc, 0, none⟩ = some (.int .i64 by_) ∧ w'.cell? ⟨g, 13 + a, none⟩ = some (.string tx) ∧ w'.cell? ((⟨g, 13, none⟩ : Addr).add a) = some (.string tx) ∧ w'.cell? ⟨g, 1 + a, none⟩ = some (.bool true) ∧ w'.cell? ((⟨g, 1, none⟩ : Addr).add a) = some (.bool true)) (ds := []) #[false, false, false, false, false, false, false, false, false, false, false, false, false, false, false, false] (by kernel_rfl) rfl rfl (⟨HCA.out, HCB.out, HCC.out, (HX.out w HD.out).1, (HX.out w HD.out).2.1, (HX.out w HD.out).2.2.1, (HX.out w HD.out).2.2.2⟩) (fun hHeld => ?_)
    refine zqp (i := 0) (N := some 29) (v := ?_) (a' := ?_) #[true, false, false, false, false, false, false, false, false, false, false, false, false, false, false, false] rfl rfl (by kernel_rfl) (fun _ _ _ h => h) (Or.inl ⟨by rfl, ?_⟩) ?_ ?_
    rotate_left
    · intro w'
      go_simp
      with_reducible rfl
    rotate_left
    · simp only [Act.put, List.setIfInBounds_toArray, List.set_cons_zero, List.set_cons_succ, i64_w, i32_w]
      rfl
    refine zqp (i := 2) (N := some 31) (v := ?_) (a' := ?_) #[true, false, true, false, false, false, false, false, false, false, false, false, false, false, false, false] rfl rfl (by kernel_rfl) (fun _ _ _ h => h) (Or.inl ⟨by rfl, ?_⟩) ?_ ?_
    rotate_left
    · intro w'
      go_simp
      with_reducible rfl
    rotate_left
    · simp only [Act.put, List.setIfInBounds_toArray, List.set_cons_zero, List.set_cons_succ, i64_w, i32_w]
      rfl
    refine zqp (i := 3) (N := some 32) (v := ?_) (a' := ?_) #[true, false, true, true, false, false, false, false, false, false, false, false, false, false, false, false] rfl rfl (by kernel_rfl) (fun _ _ _ h => h) (Or.inl ⟨by rfl, ?_⟩) ?_ ?_
    rotate_left
    · intro w'
      go_simp
      with_reducible rfl
    rotate_left
    · simp only [Act.put, List.setIfInBounds_toArray, List.set_cons_zero, List.set_cons_succ, i64_w, i32_w]
      rfl
    refine zqt (i := 1) (N := some 30) (v := ?_) (a' := ?_) #[true, true, true, true, false, false, false, false, false, false, false, false, false, false, false, false] rfl rfl (by kernel_rfl) (fun _ _ _ h => h) (Or.inl ⟨by rfl, ?_⟩) hHeld ?_ ?_
    rotate_left
    · rintro w' ⟨s0, s1, s2, s3, s4, s5, s6⟩
      go_simp
      with_reducible rfl
    rotate_left
    · simp only [Act.put, List.setIfInBounds_toArray, List.set_cons_zero, List.set_cons_succ, i64_w, i32_w]
      rfl
    refine zqp (i := 4) (N := some 33) (v := ?_) (a' := ?_) #[true, true, true, true, true, false, false, false, false, false, false, false, false, false, false, false] rfl rfl (by kernel_rfl) (fun _ _ _ h => h) (Or.inl ⟨by rfl, ?_⟩) ?_ ?_
    rotate_left
    · intro w'
      go_simp
      with_reducible rfl
    rotate_left
    · simp only [Act.put, List.setIfInBounds_toArray, List.set_cons_zero, List.set_cons_succ, i64_w, i32_w]
      rfl
    refine zqt (i := 5) (N := some 34) (v := ?_) (a' := ?_) #[true, true, true, true, true, true, false, false, false, false, false, false, false, false, false, false] rfl rfl (by kernel_rfl) (fun _ _ _ h => h) (Or.inl ⟨by rfl, ?_⟩) hHeld ?_ ?_
    rotate_left
    · rintro w' ⟨s0, s1, s2, s3, s4, s5, s6⟩
      go_simp
      with_reducible rfl
    rotate_left
    · simp only [Act.put, List.setIfInBounds_toArray, List.set_cons_zero, List.set_cons_succ, i64_w, i32_w]
      rfl
    refine zqp (i := 6) (N := some 35) (v := ?_) (a' := ?_) #[true, true, true, true, true, true, true, false, false, false, false, false, false, false, false, false] rfl rfl (by kernel_rfl) (fun _ _ _ h => h) (Or.inl ⟨by rfl, ?_⟩) ?_ ?_
    rotate_left
    · intro w'
      go_simp
      with_reducible rfl
    rotate_left
    · simp only [Act.put, List.setIfInBounds_toArray, List.set_cons_zero, List.set_cons_succ, i64_w, i32_w]
      rfl
    refine zqp (i := 7) (N := some 36) (v := ?_) (a' := ?_) #[true, true, true, true, true, true, true, true, false, false, false, false, false, false, false, false] rfl rfl (by kernel_rfl) (fun _ _ _ h => h) (Or.inl ⟨by rfl, ?_⟩) ?_ ?_
    rotate_left
    · intro w'
      go_simp
      with_reducible rfl
    rotate_left
    · simp only [Act.put, List.setIfInBounds_toArray, List.set_cons_zero, List.set_cons_succ, i64_w, i32_w]
      rfl
    refine zqp (i := 8) (N := some 37) (v := ?_) (a' := ?_) #[true, true, true, true, true, true, true, true, true, false, false, false, false, false, false, false] rfl rfl (by kernel_rfl) (fun _ _ _ h => h) (Or.inl ⟨by rfl, ?_⟩) ?_ ?_
    rotate_left
    · intro w'
      go_simp
      with_reducible rfl
    rotate_left
    · simp only [Act.put, List.setIfInBounds_toArray, List.set_cons_zero, List.set_cons_succ, i64_w, i32_w]
      rfl
    refine zqp (i := 10) (N := some 39) (v := ?_) (a' := ?_) #[true, true, true, true, true, true, true, true, true, false, true, false, false, false, false, false] rfl rfl (by kernel_rfl) (fun _ _ _ h => h) (Or.inl ⟨by rfl, ?_⟩) ?_ ?_
    rotate_left
    · intro w'
      go_simp
      with_reducible rfl
    rotate_left
    · simp only [Act.put, List.setIfInBounds_toArray, List.set_cons_zero, List.set_cons_succ, i64_w, i32_w]
      rfl
    refine zqp (i := 11) (N := some 40) (v := ?_) (a' := ?_) #[true, true, true, true, true, true, true, true, true, false, true, true, false, false, false, false] rfl rfl (by kernel_rfl) (fun _ _ _ h => h) (Or.inl ⟨by rfl, ?_⟩) ?_ ?_
    rotate_left
    · intro w'
      go_simp
      with_reducible rfl
    rotate_left
    · simp only [Act.put, List.setIfInBounds_toArray, List.set_cons_zero, List.set_cons_succ, i64_w, i32_w]
      rfl
    refine zqp (i := 12) (N := some 41) (v := ?_) (a' := ?_) #[true, true, true, true, true, true, true, true, true, false, true, true, true, false, false, false] rfl rfl (by kernel_rfl) (fun _ _ _ h => h) (Or.inl ⟨by rfl, ?_⟩) ?_ ?_
    rotate_left
    · intro w'
      go_simp
      with_reducible rfl
    rotate_left
    · simp only [Act.put, List.setIfInBounds_toArray, List.set_cons_zero, List.set_cons_succ, i64_w, i32_w]
      rfl
    refine zqt (i := 9) (N := some 38) (v := ?_) (a' := ?_) #[true, true, true, true, true, true, true, true, true, true, true, true, true, false, false, false] rfl rfl (by kernel_rfl) (fun _ _ _ h => h) (Or.inl ⟨by rfl, ?_⟩) hHeld ?_ ?_
    rotate_left
    · rintro w' ⟨s0, s1, s2, s3, s4, s5, s6⟩
      go_simp
      with_reducible rfl
    rotate_left
    · simp only [Act.put, List.setIfInBounds_toArray, List.set_cons_zero, List.set_cons_succ, i64_w, i32_w]
      rfl
    refine zqp (i := 13) (N := some 42) (v := ?_) (a' := ?_) #[true, true, true, true, true, true, true, true, true, true, true, true, true, true, false, false] rfl rfl (by kernel_rfl) (fun _ _ _ h => h) (Or.inl ⟨by rfl, ?_⟩) ?_ ?_
    rotate_left
    · intro w'
      go_simp
      with_reducible rfl
    rotate_left
    · simp only [Act.put, List.setIfInBounds_toArray, List.set_cons_zero, List.set_cons_succ, i64_w, i32_w]
      rfl
    refine zqt (i := 14) (N := some 43) (v := ?_) (a' := ?_) #[true, true, true, true, true, true, true, true, true, true, true, true, true, true, true, false] rfl rfl (by kernel_rfl) (fun _ _ _ h => h) (Or.inl ⟨by rfl, ?_⟩) hHeld ?_ ?_
    rotate_left
    · rintro w' ⟨s0, s1, s2, s3, s4, s5, s6⟩
      go_simp
      with_reducible rfl
    rotate_left
    · simp only [Act.put, List.setIfInBounds_toArray, List.set_cons_zero, List.set_cons_succ, i64_w, i32_w]
      rfl
    refine zqp (i := 15) (N := some 44) (v := ?_) (a' := ?_) #[true, true, true, true, true, true, true, true, true, true, true, true, true, true, true, true] rfl rfl (by kernel_rfl) (fun _ _ _ h => h) (Or.inl ⟨by rfl, ?_⟩) ?_ ?_
    rotate_left
    · intro w'
      go_simp
      with_reducible rfl
    rotate_left
    · simp only [Act.put, List.setIfInBounds_toArray, List.set_cons_zero, List.set_cons_succ, i64_w, i32_w]
      rfl
    refine done_ (by kernel_rfl) ?_
    go_wp2
    go_ret
    exact ⟨rfl, drv_drew HD.out, below_drew1 (Below.refl _ _)⟩
set_option maxHeartbeats 8000000 in
set_option maxRecDepth 100000 in
theorem spoilFn_main (g ga gb gc : Nat) (st : Int) (sp : List Bool) (sl rg : List ByteArray) (ns : List (Nat × Pt)) (a b : Nat) (by_ : Int) (w : World) (hD : Drv w g st sp sl rg ns) (ha : a < 12) (hb3 : b < 3) (hby : 1 ≤ by_ ∧ by_ ≤ 255)
    (hca : w.cell? ⟨ga, 0, none⟩ = some (.int .i64 (a : Int))) (hcb : w.cell? ⟨gb, 0, none⟩ = some (.int .i64 (b : Int))) (hcc : w.cell? ⟨gc, 0, none⟩ = some (.int .i64 by_)) (hga : ga < g) (hgb : gb < g) (hgc : gc < g) (hne : (sl.getD a ByteArray.empty).toList.isEmpty = false) (hb : b < (sl.getD a ByteArray.empty).size) (hsp : sp.getD a false = false) :
    Calls Try.prog 86 #[.pointer (some ⟨g, 0, none⟩), .pointer (some ⟨ga, 0, none⟩), .pointer (some ⟨gb, 0, none⟩), .pointer (some ⟨gc, 0, none⟩)] w fun e w' => e = .returned (.bool true) ∧ Drv w' g st (sp.set a true) (sl.set a (turned (sl.getD a ByteArray.empty) b by_)) rg ns ∧ Below g w w' := by
  have hu80 := Try.underlying80
  have hu75 := Try.underlying75
  have hu76 := Try.underlying76
  have hu73 := Try.underlying73
  obtain ⟨tx, htx⟩ : ∃ t, t = sl.getD a ByteArray.empty := ⟨_, rfl⟩
  obtain ⟨bs, hbs⟩ : ∃ t, t = sp.getD a false := ⟨_, rfl⟩
  rw [← htx] at hne hb
  rw [hsp] at hbs
  have HT := Az.mk (fun (W : World) (h : W.heap[g]? = some (.cells (dcells st sp sl rg (toN ns (.pointer none))) 80 (0, 0))) => drv_two' h hD.lsp hD.lsl ha htx (hbs.trans hsp.symm))
  have CAP := Az.mk (fun (W : World) (h : Below g w W) => (⟨cap_keep h hga hca, cap_keep h hgb hcb, cap_keep h hgc hcc⟩ : W.cell? ⟨ga, 0, none⟩ = some (.int .i64 (a : Int)) ∧ W.cell? ⟨gb, 0, none⟩ = some (.int .i64 (b : Int)) ∧ W.cell? ⟨gc, 0, none⟩ = some (.int .i64 by_)))
  have H := Az.mk (hd_drv hD)
  have LSP := Az.mk hD.lsp
  have LSL := Az.mk hD.lsl
  have LRG := Az.mk hD.lrg
  have SG := Az.mk hD.seg
  have HLL := Az.mk hD.last_lt
  have b0 := eq_true (show (0 : Int) ≤ (b : Int) by omega)
  have b1 := eq_true (show (b : Int) < (tx.size : Int) by omega)
  have HBT : Az (b < (bytesOf tx).length) := ⟨by simpa [bytesOf] using hb⟩
  generalize hfi : toN ns (.pointer none) = fi at HT H
  have HFI := Az.mk hfi
  have a0 := eq_true (show (0 : Int) ≤ (a : Int) by omega)
  have a1 := eq_true (show (a : Int) < 12 by omega)
  have l1 := eq_false (show ¬ (a : Int) < 0 by omega)
  have l2 := eq_false (show ¬ (12 : Int) ≤ (a : Int) by omega)
  have l3 := eq_false (show ¬ (b : Int) < 0 by omega)
  have l4 := eq_false (show ¬ (3 : Int) ≤ (b : Int) by omega)
  have l5 := eq_false (show ¬ by_ < 1 by omega)
  have l6 := eq_false (show ¬ (255 : Int) < by_ by omega)
  have HD := Az.mk hD
  have HA := Az.mk ha
  have HCA := Az.mk hca
  have HCB := Az.mk hcb
  have HCC := Az.mk hcc
  have HTX := Az.mk htx
  have HBS := Az.mk hbs
  have HGL := Az.mk (Nat.le_of_lt (blk_lt hD.blk))
  clear hD ha hby htx hga hgb hgc hb3 hb hsp
  subst hbs
  clear HD hfi
  go_enter Try.func86, Try.ntmps86
  go_wp2
  clear hca hcb hcc
  refine start_ (n := 16) (S := fun w' => w'.cell? ⟨ga, 0, none⟩ = some (.int .i64 (a : Int)) ∧ w'.cell? ⟨gb, 0, none⟩ = some (.int .i64 (b : Int)) ∧ w'.cell? ⟨gc, 0, none⟩ = some (.int .i64 by_) ∧ w'.cell? ⟨g, 13 + a, none⟩ = some (.string tx) ∧ w'.cell? ((⟨g, 13, none⟩ : Addr).add a) = some (.string tx) ∧ w'.cell? ⟨g, 1 + a, none⟩ = some (.bool false) ∧ w'.cell? ((⟨g, 1, none⟩ : Addr).add a) = some (.bool false)) (ds := []) #[false, false, false, false, false, false, false, false, false, false, false, false, false, false, false, false] (by kernel_rfl) rfl rfl (⟨(CAP.out _ H.out.bel).1, (CAP.out _ H.out.bel).2.1, (CAP.out _ H.out.bel).2.2, (HT.out _ (H.out.box 0 rfl)).1, (HT.out _ (H.out.box 0 rfl)).2.1, (HT.out _ (H.out.box 0 rfl)).2.2.1, (HT.out _ (H.out.box 0 rfl)).2.2.2⟩) (fun hHeld => ?_)
  clear hHeld
  have H1 := Az.mk H.out.drew
  clear H; have H := H1; clear H1
  generalize World.drew w = wd3 at H ⊢
  have hHeld : (fun w' => w'.cell? ⟨ga, 0, none⟩ = some (.int .i64 (a : Int)) ∧ w'.cell? ⟨gb, 0, none⟩ = some (.int .i64 (b : Int)) ∧ w'.cell? ⟨gc, 0, none⟩ = some (.int .i64 by_) ∧ w'.cell? ⟨g, 13 + a, none⟩ = some (.string tx) ∧ w'.cell? ((⟨g, 13, none⟩ : Addr).add a) = some (.string tx) ∧ w'.cell? ⟨g, 1 + a, none⟩ = some (.bool false) ∧ w'.cell? ((⟨g, 1, none⟩ : Addr).add a) = some (.bool false)) wd3 := ⟨(CAP.out _ H.out.bel).1, (CAP.out _ H.out.bel).2.1, (CAP.out _ H.out.bel).2.2, (HT.out _ (H.out.box 0 rfl)).1, (HT.out _ (H.out.box 0 rfl)).2.1, (HT.out _ (H.out.box 0 rfl)).2.2.1, (HT.out _ (H.out.box 0 rfl)).2.2.2⟩
  refine zqp (i := 0) (N := some 29) (v := ?_) (a' := ?_) #[true, false, false, false, false, false, false, false, false, false, false, false, false, false, false, false] rfl rfl (by kernel_rfl) (fun _ _ _ h => h) (Or.inl ⟨by rfl, ?_⟩) ?_ ?_
  rotate_left
  · intro w'
    go_simp
    with_reducible rfl
  rotate_left
  · simp only [Act.put, List.setIfInBounds_toArray, List.set_cons_zero, List.set_cons_succ, i64_w, i32_w]
    rfl
  refine zqp (i := 2) (N := some 31) (v := ?_) (a' := ?_) #[true, false, true, false, false, false, false, false, false, false, false, false, false, false, false, false] rfl rfl (by kernel_rfl) (fun _ _ _ h => h) (Or.inl ⟨by rfl, ?_⟩) ?_ ?_
  rotate_left
  · intro w'
    go_simp
    with_reducible rfl
  rotate_left
  · simp only [Act.put, List.setIfInBounds_toArray, List.set_cons_zero, List.set_cons_succ, i64_w, i32_w]
    rfl
  refine zqp (i := 3) (N := some 32) (v := ?_) (a' := ?_) #[true, false, true, true, false, false, false, false, false, false, false, false, false, false, false, false] rfl rfl (by kernel_rfl) (fun _ _ _ h => h) (Or.inl ⟨by rfl, ?_⟩) ?_ ?_
  rotate_left
  · intro w'
    go_simp
    with_reducible rfl
  rotate_left
  · simp only [Act.put, List.setIfInBounds_toArray, List.set_cons_zero, List.set_cons_succ, i64_w, i32_w]
    rfl
  refine zqt (i := 1) (N := some 30) (v := ?_) (a' := ?_) #[true, true, true, true, false, false, false, false, false, false, false, false, false, false, false, false] rfl rfl (by kernel_rfl) (fun _ _ _ h => h) (Or.inl ⟨by rfl, ?_⟩) hHeld ?_ ?_
  rotate_left
  · rintro w' ⟨s0, s1, s2, s3, s4, s5, s6⟩
    go_simp
    with_reducible rfl
  rotate_left
  · simp only [Act.put, List.setIfInBounds_toArray, List.set_cons_zero, List.set_cons_succ, i64_w, i32_w]
    rfl
  refine zqp (i := 4) (N := some 33) (v := ?_) (a' := ?_) #[true, true, true, true, true, false, false, false, false, false, false, false, false, false, false, false] rfl rfl (by kernel_rfl) (fun _ _ _ h => h) (Or.inl ⟨by rfl, ?_⟩) ?_ ?_
  rotate_left
  · intro w'
    go_simp
    with_reducible rfl
  rotate_left
  · simp only [Act.put, List.setIfInBounds_toArray, List.set_cons_zero, List.set_cons_succ, i64_w, i32_w]
    rfl
  refine zqt (i := 5) (N := some 34) (v := ?_) (a' := ?_) #[true, true, true, true, true, true, false, false, false, false, false, false, false, false, false, false] rfl rfl (by kernel_rfl) (fun _ _ _ h => h) (Or.inl ⟨by rfl, ?_⟩) hHeld ?_ ?_
  rotate_left
  · rintro w' ⟨s0, s1, s2, s3, s4, s5, s6⟩
    go_simp
    with_reducible rfl
  rotate_left
  · simp only [Act.put, List.setIfInBounds_toArray, List.set_cons_zero, List.set_cons_succ, i64_w, i32_w]
    rfl
  refine zqp (i := 6) (N := some 35) (v := ?_) (a' := ?_) #[true, true, true, true, true, true, true, false, false, false, false, false, false, false, false, false] rfl rfl (by kernel_rfl) (fun _ _ _ h => h) (Or.inl ⟨by rfl, ?_⟩) ?_ ?_
  rotate_left
  · intro w'
    go_simp
    with_reducible rfl
  rotate_left
  · simp only [Act.put, List.setIfInBounds_toArray, List.set_cons_zero, List.set_cons_succ, i64_w, i32_w]
    rfl
  refine zqp (i := 7) (N := some 36) (v := ?_) (a' := ?_) #[true, true, true, true, true, true, true, true, false, false, false, false, false, false, false, false] rfl rfl (by kernel_rfl) (fun _ _ _ h => h) (Or.inl ⟨by rfl, ?_⟩) ?_ ?_
  rotate_left
  · intro w'
    go_simp
    with_reducible rfl
  rotate_left
  · simp only [Act.put, List.setIfInBounds_toArray, List.set_cons_zero, List.set_cons_succ, i64_w, i32_w]
    rfl
  refine zqp (i := 8) (N := some 37) (v := ?_) (a' := ?_) #[true, true, true, true, true, true, true, true, true, false, false, false, false, false, false, false] rfl rfl (by kernel_rfl) (fun _ _ _ h => h) (Or.inl ⟨by rfl, ?_⟩) ?_ ?_
  rotate_left
  · intro w'
    go_simp
    with_reducible rfl
  rotate_left
  · simp only [Act.put, List.setIfInBounds_toArray, List.set_cons_zero, List.set_cons_succ, i64_w, i32_w]
    rfl
  refine zqp (i := 10) (N := some 39) (v := ?_) (a' := ?_) #[true, true, true, true, true, true, true, true, true, false, true, false, false, false, false, false] rfl rfl (by kernel_rfl) (fun _ _ _ h => h) (Or.inl ⟨by rfl, ?_⟩) ?_ ?_
  rotate_left
  · intro w'
    go_simp
    with_reducible rfl
  rotate_left
  · simp only [Act.put, List.setIfInBounds_toArray, List.set_cons_zero, List.set_cons_succ, i64_w, i32_w]
    rfl
  refine zqp (i := 11) (N := some 40) (v := ?_) (a' := ?_) #[true, true, true, true, true, true, true, true, true, false, true, true, false, false, false, false] rfl rfl (by kernel_rfl) (fun _ _ _ h => h) (Or.inl ⟨by rfl, ?_⟩) ?_ ?_
  rotate_left
  · intro w'
    go_simp
    with_reducible rfl
  rotate_left
  · simp only [Act.put, List.setIfInBounds_toArray, List.set_cons_zero, List.set_cons_succ, i64_w, i32_w]
    rfl
  refine zqp (i := 12) (N := some 41) (v := ?_) (a' := ?_) #[true, true, true, true, true, true, true, true, true, false, true, true, true, false, false, false] rfl rfl (by kernel_rfl) (fun _ _ _ h => h) (Or.inl ⟨by rfl, ?_⟩) ?_ ?_
  rotate_left
  · intro w'
    go_simp
    with_reducible rfl
  rotate_left
  · simp only [Act.put, List.setIfInBounds_toArray, List.set_cons_zero, List.set_cons_succ, i64_w, i32_w]
    rfl
  refine zqt (i := 9) (N := some 38) (v := ?_) (a' := ?_) #[true, true, true, true, true, true, true, true, true, true, true, true, true, false, false, false] rfl rfl (by kernel_rfl) (fun _ _ _ h => h) (Or.inl ⟨by rfl, ?_⟩) hHeld ?_ ?_
  rotate_left
  · rintro w' ⟨s0, s1, s2, s3, s4, s5, s6⟩
    go_simp
    with_reducible rfl
  rotate_left
  · simp only [Act.put, List.setIfInBounds_toArray, List.set_cons_zero, List.set_cons_succ, i64_w, i32_w]
    rfl
  refine zqp (i := 13) (N := some 42) (v := ?_) (a' := ?_) #[true, true, true, true, true, true, true, true, true, true, true, true, true, true, false, false] rfl rfl (by kernel_rfl) (fun _ _ _ h => h) (Or.inl ⟨by rfl, ?_⟩) ?_ ?_
  rotate_left
  · intro w'
    go_simp
    with_reducible rfl
  rotate_left
  · simp only [Act.put, List.setIfInBounds_toArray, List.set_cons_zero, List.set_cons_succ, i64_w, i32_w]
    rfl
  refine zqt (i := 14) (N := some 43) (v := ?_) (a' := ?_) #[true, true, true, true, true, true, true, true, true, true, true, true, true, true, true, false] rfl rfl (by kernel_rfl) (fun _ _ _ h => h) (Or.inl ⟨by rfl, ?_⟩) hHeld ?_ ?_
  rotate_left
  · rintro w' ⟨s0, s1, s2, s3, s4, s5, s6⟩
    go_simp
    with_reducible rfl
  rotate_left
  · simp only [Act.put, List.setIfInBounds_toArray, List.set_cons_zero, List.set_cons_succ, i64_w, i32_w]
    rfl
  refine zqp (i := 15) (N := some 44) (v := ?_) (a' := ?_) #[true, true, true, true, true, true, true, true, true, true, true, true, true, true, true, true] rfl rfl (by kernel_rfl) (fun _ _ _ h => h) (Or.inl ⟨by rfl, ?_⟩) ?_ ?_
  rotate_left
  · intro w'
    go_simp
    with_reducible rfl
  rotate_left
  · simp only [Act.put, List.setIfInBounds_toArray, List.set_cons_zero, List.set_cons_succ, i64_w, i32_w]
    rfl
  refine done_ (by kernel_rfl) ?_
  go_wp2
  refine start_ (n := 8) (S := fun w' => w'.cell? ⟨ga, 0, none⟩ = some (.int .i64 (a : Int)) ∧ w'.cell? ⟨gb, 0, none⟩ = some (.int .i64 (b : Int)) ∧ w'.cell? ⟨gc, 0, none⟩ = some (.int .i64 by_) ∧ w'.cell? ⟨g, 13 + a, none⟩ = some (.string tx) ∧ w'.cell? ((⟨g, 13, none⟩ : Addr).add a) = some (.string tx) ∧ w'.cell? ⟨g, 1 + a, none⟩ = some (.bool false) ∧ w'.cell? ((⟨g, 1, none⟩ : Addr).add a) = some (.bool false)) (ds := []) #[false, false, false, false, false, false, false, false] (by kernel_rfl) rfl rfl (⟨(CAP.out _ H.out.bel).1, (CAP.out _ H.out.bel).2.1, (CAP.out _ H.out.bel).2.2, (HT.out _ (H.out.box 0 rfl)).1, (HT.out _ (H.out.box 0 rfl)).2.1, (HT.out _ (H.out.box 0 rfl)).2.2.1, (HT.out _ (H.out.box 0 rfl)).2.2.2⟩) (fun hHeld => ?_)
  clear hHeld
  have H1 := Az.mk H.out.drew
  clear H; have H := H1; clear H1
  generalize World.drew wd3 = wd5 at H ⊢
  have hHeld : (fun w' => w'.cell? ⟨ga, 0, none⟩ = some (.int .i64 (a : Int)) ∧ w'.cell? ⟨gb, 0, none⟩ = some (.int .i64 (b : Int)) ∧ w'.cell? ⟨gc, 0, none⟩ = some (.int .i64 by_) ∧ w'.cell? ⟨g, 13 + a, none⟩ = some (.string tx) ∧ w'.cell? ((⟨g, 13, none⟩ : Addr).add a) = some (.string tx) ∧ w'.cell? ⟨g, 1 + a, none⟩ = some (.bool false) ∧ w'.cell? ((⟨g, 1, none⟩ : Addr).add a) = some (.bool false)) wd5 := ⟨(CAP.out _ H.out.bel).1, (CAP.out _ H.out.bel).2.1, (CAP.out _ H.out.bel).2.2, (HT.out _ (H.out.box 0 rfl)).1, (HT.out _ (H.out.box 0 rfl)).2.1, (HT.out _ (H.out.box 0 rfl)).2.2.1, (HT.out _ (H.out.box 0 rfl)).2.2.2⟩
  refine zqp (i := 0) (N := some 45) (v := ?_) (a' := ?_) #[true, false, false, false, false, false, false, false] rfl rfl (by kernel_rfl) (fun _ _ _ h => h) (Or.inl ⟨by rfl, ?_⟩) ?_ ?_
  rotate_left
  · intro w'
    go_simp
    with_reducible rfl
  rotate_left
  · simp only [Act.put, List.setIfInBounds_toArray, List.set_cons_zero, List.set_cons_succ, i64_w, i32_w]
    rfl
  refine zqp (i := 2) (N := some 47) (v := ?_) (a' := ?_) #[true, false, true, false, false, false, false, false] rfl rfl (by kernel_rfl) (fun _ _ _ h => h) (Or.inl ⟨by rfl, ?_⟩) ?_ ?_
  rotate_left
  · intro w'
    go_simp
    with_reducible rfl
  rotate_left
  · simp only [Act.put, List.setIfInBounds_toArray, List.set_cons_zero, List.set_cons_succ, i64_w, i32_w]
    rfl
  refine zqp (i := 3) (N := some 48) (v := ?_) (a' := ?_) #[true, false, true, true, false, false, false, false] rfl rfl (by kernel_rfl) (fun _ _ _ h => h) (Or.inl ⟨by rfl, ?_⟩) ?_ ?_
  rotate_left
  · intro w'
    go_simp
    with_reducible rfl
  rotate_left
  · simp only [Act.put, List.setIfInBounds_toArray, List.set_cons_zero, List.set_cons_succ, i64_w, i32_w]
    rfl
  refine zqt (i := 1) (N := some 46) (v := ?_) (a' := ?_) #[true, true, true, true, false, false, false, false] rfl rfl (by kernel_rfl) (fun _ _ _ h => h) (Or.inl ⟨by rfl, ?_⟩) hHeld ?_ ?_
  rotate_left
  · rintro w' ⟨s0, s1, s2, s3, s4, s5, s6⟩
    go_simp
    with_reducible rfl
  rotate_left
  · simp only [Act.put, List.setIfInBounds_toArray, List.set_cons_zero, List.set_cons_succ, i64_w, i32_w]
    rfl
  refine zqp (i := 4) (N := some 49) (v := ?_) (a' := ?_) #[true, true, true, true, true, false, false, false] rfl rfl (by kernel_rfl) (fun _ _ _ h => h) (Or.inl ⟨by rfl, ?_⟩) ?_ ?_
  rotate_left
  · intro w'
    go_simp
    with_reducible rfl
  rotate_left
  · simp only [Act.put, List.setIfInBounds_toArray, List.set_cons_zero, List.set_cons_succ, i64_w, i32_w]
    rfl
  refine zqt (i := 5) (N := some 50) (v := ?_) (a' := ?_) #[true, true, true, true, true, true, false, false] rfl rfl (by kernel_rfl) (fun _ _ _ h => h) (Or.inl ⟨by rfl, ?_⟩) hHeld ?_ ?_
  rotate_left
  · rintro w' ⟨s0, s1, s2, s3, s4, s5, s6⟩
    go_simp
    with_reducible rfl
  rotate_left
  · simp only [Act.put, List.setIfInBounds_toArray, List.set_cons_zero, List.set_cons_succ, i64_w, i32_w]
    rfl
  refine one_ (i := 6) (N := some 51) #[true, true, true, true, true, true, true, false] rfl rfl (by kernel_rfl) (by decide) (fun K hK => ?_)
  have H5 := Az.mk (H.out.box 0 rfl)
  refine value_ (w1 := Lib.bytesWorld wd5 5 tx) (v := .slice (some ⟨wd5.heap.size, 0, none⟩) tx.size (grownCap wd5 tx.size 0 5)) (by rfl) rfl (run_conv Try.underlying9 Try.underlying22 Try.underlying5 rfl rfl) ?_
  have B51 := Az.mk (bytesAt_new wd5 5 tx)
  have H1 := Az.mk (H.out.more (p := .same wd5.heap.size (wd5.heap.size + 1) (Lib.bytesWorld wd5 5 tx)) (below_conv wd5 5 tx) (Nat.le_refl _) (by show wd5.heap.size + 1 ≤ _; rw [Lib.bytesWorld_size]; exact Nat.le_refl _) (fun _ _ _ => rfl))
  clear H; have H := H1; clear H1
  generalize Lib.bytesWorld wd5 5 tx = w51 at H B51 ⊢
  generalize grownCap wd5 tx.size 0 5 = c51
  clear hHeld
  have G51 : Az (wd5.heap.size ≠ g) := ⟨Nat.ne_of_gt (blk_lt H5.out)⟩
  generalize wd5.heap.size = g51 at H B51 G51 ⊢
  clear H5
  refine hK.out _ _ (⟨(CAP.out _ H.out.bel).1, (CAP.out _ H.out.bel).2.1, (CAP.out _ H.out.bel).2.2, (HT.out _ (H.out.box 1 rfl)).1, (HT.out _ (H.out.box 1 rfl)).2.1, (HT.out _ (H.out.box 1 rfl)).2.2.1, (HT.out _ (H.out.box 1 rfl)).2.2.2⟩) (fun hHeld => ?_)
  clear hK K
  refine norm_ (a' := ?_) ?_ ?_
  rotate_left
  · show Act.put _ (some 51) _ = _
    simp only [Act.put, List.setIfInBounds_toArray, List.set_cons_zero, List.set_cons_succ, i64_w, i32_w]
    rfl
  refine zqp (i := 7) (N := some 6) (v := ?_) (a' := ?_) #[true, true, true, true, true, true, true, true] rfl rfl (by kernel_rfl) (fun _ _ _ h => h) (Or.inl ⟨by rfl, ?_⟩) ?_ ?_
  rotate_left
  · intro w'
    go_simp
    with_reducible rfl
  rotate_left
  · simp only [Act.put, List.setIfInBounds_toArray, List.set_cons_zero, List.set_cons_succ, i64_w, i32_w]
    rfl
  refine done_ (by kernel_rfl) ?_
  go_wp2
  refine start_ (n := 9) (S := fun w' => w'.cell? ⟨ga, 0, none⟩ = some (.int .i64 (a : Int)) ∧ w'.cell? ⟨gb, 0, none⟩ = some (.int .i64 (b : Int)) ∧ w'.cell? ⟨gc, 0, none⟩ = some (.int .i64 by_) ∧ w'.cell? ⟨g51, b, none⟩ = some (.int .u8 ((bytesOf tx)[b]?.getD 0))) (ds := [8]) #[false, false, false, false, false, false, false, false, false] (by kernel_rfl) rfl rfl (⟨(CAP.out _ H.out.bel).1, (CAP.out _ H.out.bel).2.1, (CAP.out _ H.out.bel).2.2, (B51.out b HBT.out).1⟩) (fun hHeld => ?_)
  clear hHeld
  have H1 := Az.mk H.out.drew
  clear H; have H := H1; clear H1
  have B6 := Az.mk (B51.out.move (w' := w51.drew) rfl)
  clear B51
  generalize World.drew w51 = wd6 at H B6 ⊢
  have hHeld : (fun w' => w'.cell? ⟨ga, 0, none⟩ = some (.int .i64 (a : Int)) ∧ w'.cell? ⟨gb, 0, none⟩ = some (.int .i64 (b : Int)) ∧ w'.cell? ⟨gc, 0, none⟩ = some (.int .i64 by_) ∧ w'.cell? ⟨g51, b, none⟩ = some (.int .u8 ((bytesOf tx)[b]?.getD 0))) wd6 := ⟨(CAP.out _ H.out.bel).1, (CAP.out _ H.out.bel).2.1, (CAP.out _ H.out.bel).2.2, (B6.out b HBT.out).1⟩
  refine zqp (i := 0) (N := some 52) (v := ?_) (a' := ?_) #[true, false, false, false, false, false, false, false, false] rfl rfl (by kernel_rfl) (fun _ _ _ h => h) (Or.inl ⟨by rfl, ?_⟩) ?_ ?_
  rotate_left
  · intro w'
    go_simp
    with_reducible rfl
  rotate_left
  · simp only [Act.put, List.setIfInBounds_toArray, List.set_cons_zero, List.set_cons_succ, i64_w, i32_w]
    rfl
  refine zqt (i := 1) (N := some 53) (v := ?_) (a' := ?_) #[true, true, false, false, false, false, false, false, false] rfl rfl (by kernel_rfl) (fun _ _ _ h => h) (Or.inl ⟨by rfl, ?_⟩) hHeld ?_ ?_
  rotate_left
  · rintro w' ⟨s0, s1, s2, s3⟩
    go_simp
    with_reducible rfl
  rotate_left
  · simp only [Act.put, List.setIfInBounds_toArray, List.set_cons_zero, List.set_cons_succ, i64_w, i32_w]
    rfl
  refine zqp (i := 2) (N := some 54) (v := ?_) (a' := ?_) #[true, true, true, false, false, false, false, false, false] rfl rfl (by kernel_rfl) (fun _ _ _ h => h) (Or.inl ⟨by rfl, ?_⟩) ?_ ?_
  rotate_left
  · intro w'
    go_simp
    with_reducible rfl
  rotate_left
  · simp only [Act.put, List.setIfInBounds_toArray, List.set_cons_zero, List.set_cons_succ, i64_w, i32_w]
    rfl
  refine zqt (i := 3) (N := some 55) (v := ?_) (a' := ?_) #[true, true, true, true, false, false, false, false, false] rfl rfl (by kernel_rfl) (fun _ _ _ h => h) (Or.inl ⟨by rfl, ?_⟩) hHeld ?_ ?_
  rotate_left
  · rintro w' ⟨s0, s1, s2, s3⟩
    go_simp
    with_reducible rfl
  rotate_left
  · simp only [Act.put, List.setIfInBounds_toArray, List.set_cons_zero, List.set_cons_succ, i64_w, i32_w]
    rfl
  refine zqt (i := 4) (N := some 56) (v := ?_) (a' := ?_) #[true, true, true, true, true, false, false, false, false] rfl rfl (by kernel_rfl) (fun _ _ _ h => h) (Or.inl ⟨by rfl, ?_⟩) hHeld ?_ ?_
  rotate_left
  · rintro w' ⟨s0, s1, s2, s3⟩
    go_simp
    with_reducible rfl
  rotate_left
  · simp only [Act.put, List.setIfInBounds_toArray, List.set_cons_zero, List.set_cons_succ, i64_w, i32_w]
    rfl
  refine zqp (i := 5) (N := some 57) (v := ?_) (a' := ?_) #[true, true, true, true, true, true, false, false, false] rfl rfl (by kernel_rfl) (fun _ _ _ h => h) (Or.inl ⟨by rfl, ?_⟩) ?_ ?_
  rotate_left
  · intro w'
    go_simp
    with_reducible rfl
  rotate_left
  · simp only [Act.put, List.setIfInBounds_toArray, List.set_cons_zero, List.set_cons_succ, i64_w, i32_w]
    rfl
  refine zqp (i := 6) (N := some 58) (v := ?_) (a' := ?_) #[true, true, true, true, true, true, true, false, false] rfl rfl (by kernel_rfl) (fun _ _ _ h => h) (Or.inl ⟨by rfl, ?_⟩) ?_ ?_
  rotate_left
  · intro w'
    go_simp
    with_reducible rfl
  rotate_left
  · simp only [Act.put, List.setIfInBounds_toArray, List.set_cons_zero, List.set_cons_succ, i64_w, i32_w]
    rfl
  refine zqp (i := 7) (N := some 59) (v := ?_) (a' := ?_) #[true, true, true, true, true, true, true, true, false] rfl rfl (by kernel_rfl) (fun _ _ _ h => h) (Or.inl ⟨by rfl, ?_⟩) ?_ ?_
  rotate_left
  · intro w'
    go_simp
    with_reducible rfl
  rotate_left
  · simp only [Act.put, List.setIfInBounds_toArray, List.set_cons_zero, List.set_cons_succ, i64_w, i32_w]
    rfl
  refine last_ (i := 8) (N := none) #[true, true, true, true, true, true, true, true, true] rfl rfl (by kernel_rfl) (by decide) (fun K hK => ?_)
  refine skip_ (by rfl) rfl (run_sc (v := .int .u8 (bits .xor .u8 ((bytesOf tx)[b]?.getD 0) (by_ % 256))) sizeS5 (B6.out b HBT.out).1 (B6.out b HBT.out).2 rfl rfl rfl rfl) ?_
  have B7 := Az.mk (B6.out.put (v := (bits .xor .u8 ((bytesOf tx)[b]?.getD 0) (by_ % 256))) HBT.out)
  have H1 := Az.mk (H.out.set_same 0 rfl (j := b) ⟨Nat.le_refl _, Nat.lt_succ_self _⟩ (.int .u8 (bits .xor .u8 ((bytesOf tx)[b]?.getD 0) (by_ % 256))))
  clear H; have H := H1; clear H1
  clear hHeld B6
  generalize World.setCell wd6 _ _ = w6s at H B7 ⊢
  refine hK.out _ _ ?_
  clear hK K
  refine norm_ (a' := ?_) ?_ ?_
  rotate_left
  · rfl
  refine done_ (by kernel_rfl) ?_
  go_wp2
  refine start_ (n := 15) (S := fun w' => w'.cell? ⟨ga, 0, none⟩ = some (.int .i64 (a : Int)) ∧ w'.cell? ⟨gb, 0, none⟩ = some (.int .i64 (b : Int)) ∧ w'.cell? ⟨gc, 0, none⟩ = some (.int .i64 by_) ∧ BytesAt w' g51 ((bytesOf tx).set b (bits .xor .u8 ((bytesOf tx)[b]?.getD 0) (by_ % 256)))) (ds := [14]) #[false, false, false, false, false, false, false, false, false, false, false, false, false, false, false] (by kernel_rfl) rfl rfl (⟨(CAP.out _ H.out.bel).1, (CAP.out _ H.out.bel).2.1, (CAP.out _ H.out.bel).2.2, B7.out⟩) (fun hHeld => ?_)
  clear hHeld
  have H1 := Az.mk H.out.drew
  clear H; have H := H1; clear H1
  have B8 := Az.mk (B7.out.move (w' := w6s.drew) rfl)
  clear B7
  generalize World.drew w6s = wd7 at H B8 ⊢
  have hHeld : (fun w' => w'.cell? ⟨ga, 0, none⟩ = some (.int .i64 (a : Int)) ∧ w'.cell? ⟨gb, 0, none⟩ = some (.int .i64 (b : Int)) ∧ w'.cell? ⟨gc, 0, none⟩ = some (.int .i64 by_) ∧ BytesAt w' g51 ((bytesOf tx).set b (bits .xor .u8 ((bytesOf tx)[b]?.getD 0) (by_ % 256)))) wd7 := ⟨(CAP.out _ H.out.bel).1, (CAP.out _ H.out.bel).2.1, (CAP.out _ H.out.bel).2.2, B8.out⟩
  refine zqp (i := 0) (N := some 60) (v := ?_) (a' := ?_) #[true, false, false, false, false, false, false, false, false, false, false, false, false, false, false] rfl rfl (by kernel_rfl) (fun _ _ _ h => h) (Or.inl ⟨by rfl, ?_⟩) ?_ ?_
  rotate_left
  · intro w'
    go_simp
    with_reducible rfl
  rotate_left
  · simp only [Act.put, List.setIfInBounds_toArray, List.set_cons_zero, List.set_cons_succ, i64_w, i32_w]
    rfl
  refine zqp (i := 2) (N := some 62) (v := ?_) (a' := ?_) #[true, false, true, false, false, false, false, false, false, false, false, false, false, false, false] rfl rfl (by kernel_rfl) (fun _ _ _ h => h) (Or.inl ⟨by rfl, ?_⟩) ?_ ?_
  rotate_left
  · intro w'
    go_simp
    with_reducible rfl
  rotate_left
  · simp only [Act.put, List.setIfInBounds_toArray, List.set_cons_zero, List.set_cons_succ, i64_w, i32_w]
    rfl
  refine zqp (i := 4) (N := some 64) (v := ?_) (a' := ?_) #[true, false, true, false, true, false, false, false, false, false, false, false, false, false, false] rfl rfl (by kernel_rfl) (fun _ _ _ h => h) (Or.inl ⟨by rfl, ?_⟩) ?_ ?_
  rotate_left
  · intro w'
    go_simp
    with_reducible rfl
  rotate_left
  · simp only [Act.put, List.setIfInBounds_toArray, List.set_cons_zero, List.set_cons_succ, i64_w, i32_w]
    rfl
  refine zqt (i := 5) (N := some 65) (v := .string (strOfNums ((bytesOf tx).set b (bits .xor .u8 ((bytesOf tx)[b]?.getD 0) (by_ % 256))))) (a' := ?_) #[true, false, true, false, true, true, false, false, false, false, false, false, false, false, false] rfl rfl (by kernel_rfl) (fun _ _ _ h => h) (Or.inl ⟨by rfl, fun w' s0 => run_back Try.underlying9 Try.underlying22 Try.underlying5 rfl rfl (by rw [List.length_set]; simp [bytesOf]) s0.2.2.2⟩) hHeld ?_ ?_
  rotate_left
  · simp only [Act.put, List.setIfInBounds_toArray, List.set_cons_zero, List.set_cons_succ, i64_w, i32_w]
    rfl
  refine zqp (i := 6) (N := some 66) (v := ?_) (a' := ?_) #[true, false, true, false, true, true, true, false, false, false, false, false, false, false, false] rfl rfl (by kernel_rfl) (fun _ _ _ h => h) (Or.inl ⟨by rfl, ?_⟩) ?_ ?_
  rotate_left
  · intro w'
    go_simp
    with_reducible rfl
  rotate_left
  · simp only [Act.put, List.setIfInBounds_toArray, List.set_cons_zero, List.set_cons_succ, i64_w, i32_w]
    rfl
  refine zqp (i := 7) (N := some 67) (v := ?_) (a' := ?_) #[true, false, true, false, true, true, true, true, false, false, false, false, false, false, false] rfl rfl (by kernel_rfl) (fun _ _ _ h => h) (Or.inl ⟨by rfl, ?_⟩) ?_ ?_
  rotate_left
  · intro w'
    go_simp
    with_reducible rfl
  rotate_left
  · simp only [Act.put, List.setIfInBounds_toArray, List.set_cons_zero, List.set_cons_succ, i64_w, i32_w]
    rfl
  refine zqp (i := 10) (N := some 69) (v := ?_) (a' := ?_) #[true, false, true, false, true, true, true, true, false, false, true, false, false, false, false] rfl rfl (by kernel_rfl) (fun _ _ _ h => h) (Or.inl ⟨by rfl, ?_⟩) ?_ ?_
  rotate_left
  · intro w'
    go_simp
    with_reducible rfl
  rotate_left
  · simp only [Act.put, List.setIfInBounds_toArray, List.set_cons_zero, List.set_cons_succ, i64_w, i32_w]
    rfl
  refine zqp (i := 11) (N := some 70) (v := ?_) (a' := ?_) #[true, false, true, false, true, true, true, true, false, false, true, true, false, false, false] rfl rfl (by kernel_rfl) (fun _ _ _ h => h) (Or.inl ⟨by rfl, ?_⟩) ?_ ?_
  rotate_left
  · intro w'
    go_simp
    with_reducible rfl
  rotate_left
  · simp only [Act.put, List.setIfInBounds_toArray, List.set_cons_zero, List.set_cons_succ, i64_w, i32_w]
    rfl
  refine zqp (i := 12) (N := some 71) (v := ?_) (a' := ?_) #[true, false, true, false, true, true, true, true, false, false, true, true, true, false, false] rfl rfl (by kernel_rfl) (fun _ _ _ h => h) (Or.inl ⟨by rfl, ?_⟩) ?_ ?_
  rotate_left
  · intro w'
    go_simp
    with_reducible rfl
  rotate_left
  · simp only [Act.put, List.setIfInBounds_toArray, List.set_cons_zero, List.set_cons_succ, i64_w, i32_w]
    rfl
  refine zqt (i := 1) (N := some 61) (v := ?_) (a' := ?_) #[true, true, true, false, true, true, true, true, false, false, true, true, true, false, false] rfl rfl (by kernel_rfl) (fun _ _ _ h => h) (Or.inl ⟨by rfl, ?_⟩) hHeld ?_ ?_
  rotate_left
  · rintro w' ⟨s0, s1, s2, s3⟩
    go_simp
    with_reducible rfl
  rotate_left
  · simp only [Act.put, List.setIfInBounds_toArray, List.set_cons_zero, List.set_cons_succ, i64_w, i32_w]
    rfl
  refine zqp (i := 8) (N := some 68) (v := ?_) (a' := ?_) #[true, true, true, false, true, true, true, true, true, false, true, true, true, false, false] rfl rfl (by kernel_rfl) (fun _ _ _ h => h) (Or.inl ⟨by rfl, ?_⟩) ?_ ?_
  rotate_left
  · intro w'
    go_simp
    with_reducible rfl
  rotate_left
  · simp only [Act.put, List.setIfInBounds_toArray, List.set_cons_zero, List.set_cons_succ, i64_w, i32_w]
    rfl
  refine zqt (i := 3) (N := some 63) (v := ?_) (a' := ?_) #[true, true, true, true, true, true, true, true, true, false, true, true, true, false, false] rfl rfl (by kernel_rfl) (fun _ _ _ h => h) (Or.inl ⟨by rfl, ?_⟩) hHeld ?_ ?_
  rotate_left
  · rintro w' ⟨s0, s1, s2, s3⟩
    go_simp
    with_reducible rfl
  rotate_left
  · simp only [Act.put, List.setIfInBounds_toArray, List.set_cons_zero, List.set_cons_succ, i64_w, i32_w]
    rfl
  refine one_ (i := 9) (N := none) #[true, true, true, true, true, true, true, true, true, true, true, true, true, false, false] rfl rfl (by kernel_rfl) (by decide) (fun K hK => ?_)
  refine skip_ (by rfl) rfl (run_sc (v := .string (strOfNums ((bytesOf tx).set b (bits .xor .u8 ((bytesOf tx)[b]?.getD 0) (by_ % 256))))) sizeS9 (A := ⟨g, 13 + a, none⟩) (u := .string tx) (HT.out _ (H.out.box 1 rfl)).1 (zq5 (H.out.box 1 rfl) _) rfl rfl rfl rfl) ?_
  have H1 := Az.mk (H.out.set_box 1 rfl (13 + a) (.string (strOfNums ((bytesOf tx).set b (bits .xor .u8 ((bytesOf tx)[b]?.getD 0) (by_ % 256))))))
  rw [set_sl LSP.out LSL.out HA.out] at H1
  clear H; have H := H1; clear H1
  clear hHeld
  have B9 := Az.mk (B8.out.move (Below.heap_setCell wd7 ⟨g, 13 + a, none⟩ (.string (strOfNums ((bytesOf tx).set b (bits .xor .u8 ((bytesOf tx)[b]?.getD 0) (by_ % 256))))) g51 G51.out))
  generalize World.setCell wd7 _ _ = w7s at H B9 ⊢
  refine hK.out _ _ (⟨(CAP.out _ H.out.bel).1, (CAP.out _ H.out.bel).2.1, (CAP.out _ H.out.bel).2.2, B9.out⟩) (fun hHeld => ?_)
  clear hK K
  refine norm_ (a' := ?_) ?_ ?_
  rotate_left
  · rfl
  refine zqp (i := 13) (N := some 72) (v := ?_) (a' := ?_) #[true, true, true, true, true, true, true, true, true, true, true, true, true, true, false] rfl rfl (by kernel_rfl) (fun _ _ _ h => h) (Or.inl ⟨by rfl, ?_⟩) ?_ ?_
  rotate_left
  · intro w'
    go_simp
    with_reducible rfl
  rotate_left
  · simp only [Act.put, List.setIfInBounds_toArray, List.set_cons_zero, List.set_cons_succ, i64_w, i32_w]
    rfl
  refine last_ (i := 14) (N := none) #[true, true, true, true, true, true, true, true, true, true, true, true, true, true, true] rfl rfl (by kernel_rfl) (by decide) (fun K hK => ?_)
  refine skip_ (by rfl) rfl (run_sc (v := .bool true) sizeS4 (A := ⟨g, 1 + a, none⟩) ((zq4 (H.out.box 1 rfl) (1 + a)).trans (dc_sp LSP.out HA.out)) (zq5 (H.out.box 1 rfl) _) rfl rfl rfl rfl) ?_
  have H1 := Az.mk (H.out.set_box 1 rfl (1 + a) (.bool true))
  rw [set_sp LSP.out HA.out] at H1
  clear H; have H := H1; clear H1
  generalize World.setCell w7s _ _ = w7t at H ⊢
  refine hK.out _ _ ?_
  clear hK K
  refine norm_ (a' := ?_) ?_ ?_
  rotate_left
  · rfl
  refine done_ (by kernel_rfl) ?_
  go_wp2
  go_ret
  have e := HTX.out
  subst e
  refine ⟨rfl, ⟨by rw [HFI.out]; exact H.out.box 1 rfl, SG.out.keep fun k h1 h2 => H.out.same 2 rfl k h1 (Nat.lt_of_le_of_lt h2 HLL.out), by rw [List.length_set]; exact LSP.out, by rw [List.length_set]; exact LSL.out, LRG.out⟩, H.out.bel⟩
end Go.Proofs.Ytkgpnloghmbmlaa.Print
namespace Go.Proofs.Ytkgpnloghmbmlaa.Print
open Go.RowKit Go.Proofs.YtkgpnloghmbmlaaW.PrintWords Go.Proofs.YtkgpnloghmbmlaaW.PrintLast Go.Proofs.YtkgpnloghmbmlaaW.PrintMore
attribute [local go_sem] max2_int min2_int max_two min_two max_three min_three max_four min_four   -- for this text's walks alone
set_option linter.unusedVariables false
set_option linter.unusedSimpArgs false
mutual
def spec_DiskOk.j0 : Nat → Bool → Int → List ByteArray → List ByteArray → List Bool → List (S54) → Option (Bool)
  | 0, _, _, _, _, _, _ => none
  | k + 1, x34, x129000, x129001, x129002, x129003, x129004 => if x34 = true then (some false) else (spec_DiskOk.l0 k 0 x129000 x129001 x129002 x129003 x129004)
def spec_DiskOk.l0 : Nat → Int → Int → List ByteArray → List ByteArray → List Bool → List (S54) → Option (Bool)
  | 0, _, _, _, _, _, _ => none
  | k + 1, x3, x129000, x129001, x129002, x129003, x129004 => if x3 < (x129001.length : Int) then (if 0 ≤ x3 then (if ((rdOf ByteArray.empty x129001 x3).size : Int) = 0 then (if x3 < (x129003.length : Int) then (if rdOf false x129003 x3 = true then (some false) else (if x129000 = 1 then (if ((rdOf ByteArray.empty x129001 x3).size : Int) > 0 then (some false) else (spec_DiskOk.l0 k (wrap64 (x3 + 1)) x129000 x129001 x129002 x129003 x129004)) else (spec_DiskOk.l0 k (wrap64 (x3 + 1)) x129000 x129001 x129002 x129003 x129004))) else (none)) else (if ((rdOf ByteArray.empty x129001 x3).size : Int) = 3 then (if x3 < (x129003.length : Int) then (if rdOf false x129003 x3 = true then (if x129000 = 1 then (if ((rdOf ByteArray.empty x129001 x3).size : Int) > 0 then (some false) else (spec_DiskOk.l0 k (wrap64 (x3 + 1)) x129000 x129001 x129002 x129003 x129004)) else (spec_DiskOk.l0 k (wrap64 (x3 + 1)) x129000 x129001 x129002 x129003 x129004)) else (if x129000 = 1 then (if ((rdOf ByteArray.empty x129001 x3).size : Int) > 0 then (some false) else (spec_DiskOk.l0 k (wrap64 (x3 + 1)) x129000 x129001 x129002 x129003 x129004)) else (spec_DiskOk.l0 k (wrap64 (x3 + 1)) x129000 x129001 x129002 x129003 x129004))) else (none)) else (some false))) else (none)) else (spec_DiskOk.l1 k 0 x129000 x129001 x129002 x129003 x129004)
def spec_DiskOk.l1 : Nat → Int → Int → List ByteArray → List ByteArray → List Bool → List (S54) → Option (Bool)
  | 0, _, _, _, _, _, _ => none
  | k + 1, x5, x129000, x129001, x129002, x129003, x129004 => if x5 < (x129002.length : Int) then (if 0 ≤ x5 then (if ((rdOf ByteArray.empty x129002 x5).size : Int) > 700 then (some false) else (if x129000 = 1 then (if ((rdOf ByteArray.empty x129002 x5).size : Int) > 0 then (some false) else (spec_DiskOk.l1 k (wrap64 (x5 + 1)) x129000 x129001 x129002 x129003 x129004)) else (spec_DiskOk.l1 k (wrap64 (x5 + 1)) x129000 x129001 x129002 x129003 x129004))) else (none)) else (spec_DiskOk.l2 k 0 x129000 x129001 x129002 x129003 x129004)
def spec_DiskOk.l2 : Nat → Int → Int → List ByteArray → List ByteArray → List Bool → List (S54) → Option (Bool)
  | 0, _, _, _, _, _, _ => none
  | k + 1, x6, x129000, x129001, x129002, x129003, x129004 => if x6 < (x129004.length : Int) then (if 0 ≤ x6 then ((spec_l3Put.f ((rd_T54 x129004 x6).f0) ((rd_T54 x129004 x6).f1) ((rd_T54 x129004 x6).f2)).bind fun t136 => (if t136 = true then (spec_DiskOk.l2 k (wrap64 (x6 + 1)) x129000 x129001 x129002 x129003 x129004) else (some false))) else (none)) else (if x129000 = 1 then (some ((x129004.length : Int) == 0)) else (some true))
end
def spec_DiskOk.f (k : Nat) (a0_0 : Int) (l0_1 : List ByteArray) (l0_2 : List ByteArray) (l0_3 : List Bool) (l0_4 : List (S54)) : Option (Bool) := (spec_l6In.f a0_0 0 2).bind fun t129 => (if t129 = true then (if (l0_1.length : Int) = 12 then (if (l0_2.length : Int) = 2 then (if (l0_3.length : Int) = 12 then (spec_DiskOk.j0 k (decide ((l0_4.length : Int) > 40)) a0_0 l0_1 l0_2 l0_3 l0_4) else (spec_DiskOk.j0 k true a0_0 l0_1 l0_2 l0_3 l0_4)) else (spec_DiskOk.j0 k true a0_0 l0_1 l0_2 l0_3 l0_4)) else (spec_DiskOk.j0 k true a0_0 l0_1 l0_2 l0_3 l0_4)) else (spec_DiskOk.j0 k true a0_0 l0_1 l0_2 l0_3 l0_4))
set_option maxHeartbeats 8000000 in
set_option maxRecDepth 100000 in
theorem spec_DiskOk.calls (k : Nat) (a0_0 : Int) (A0_1 : Option Addr) (c0_1 : Nat) (l0_1 : List ByteArray) (A0_2 : Option Addr) (c0_2 : Nat) (l0_2 : List ByteArray) (A0_3 : Option Addr) (c0_3 : Nat) (l0_3 : List Bool) (A0_4 : Option Addr) (c0_4 : Nat) (l0_4 : List (S54)) (r : Bool) (w : World) (hr0_1 : Kd.C Kd.string w A0_1 l0_1.length l0_1) (hc0_1 : l0_1.length ≤ c0_1) (hr0_2 : Kd.C Kd.string w A0_2 l0_2.length l0_2) (hc0_2 : l0_2.length ≤ c0_2) (hr0_3 : Kd.C Kd.bool w A0_3 l0_3.length l0_3) (hc0_3 : l0_3.length ≤ c0_3) (hr0_4 : Kd.C k54 w A0_4 l0_4.length l0_4) (hc0_4 : l0_4.length ≤ c0_4) (h : spec_DiskOk.f k a0_0 l0_1 l0_2 l0_3 l0_4 = some r) :
    Calls Try.prog 26 #[.agg #[.int .i64 a0_0, .slice A0_1 l0_1.length c0_1, .slice A0_2 l0_2.length c0_2, .slice A0_3 l0_3.length c0_3, .slice A0_4 l0_4.length c0_4]] w fun e w' => e = .returned (.bool r) ∧ Below w.heap.size w w' := by
  have hu28 := Try.underlying28
  have hu54 := Try.underlying54
  have HR0_1 := Az.mk hr0_1
  have HC0_1 := Az.mk hc0_1
  clear hr0_1 hc0_1
  have HR0_2 := Az.mk hr0_2
  have HC0_2 := Az.mk hc0_2
  clear hr0_2 hc0_2
  have HR0_3 := Az.mk hr0_3
  have HC0_3 := Az.mk hc0_3
  clear hr0_3 hc0_3
  have HR0_4 := Az.mk hr0_4
  have HC0_4 := Az.mk hc0_4
  clear hr0_4 hc0_4
  have HB := Az.mk (Below.refl w.heap.size w)
  have H : ((spec_l6In.f a0_0 0 2).bind fun t129 => (if t129 = true then (if (l0_1.length : Int) = 12 then (if (l0_2.length : Int) = 2 then (if (l0_3.length : Int) = 12 then (spec_DiskOk.j0 k (decide ((l0_4.length : Int) > 40)) a0_0 l0_1 l0_2 l0_3 l0_4) else (spec_DiskOk.j0 k true a0_0 l0_1 l0_2 l0_3 l0_4)) else (spec_DiskOk.j0 k true a0_0 l0_1 l0_2 l0_3 l0_4)) else (spec_DiskOk.j0 k true a0_0 l0_1 l0_2 l0_3 l0_4)) else (spec_DiskOk.j0 k true a0_0 l0_1 l0_2 l0_3 l0_4))) = some r := h
  clear h
  have HC2 := Az.mk H
  clear H
  go_enter Try.func26, Try.ntmps26
  go_upto_region 1 with (first | ((with_reducible refine zqg (N := 1) rfl ?_); (try (refine gate_guard (by rfl) ?_; dsimp only)); refine zqb ?hg (N := 1) ?hd (cs := #[.int .i64 a0_0, .slice A0_1 l0_1.length c0_1, .slice A0_2 l0_2.length c0_2, .slice A0_3 l0_3.length c0_3, .slice A0_4 l0_4.length c0_4]) (t := 28) ?hr ?_; (case hd => rfl); (case hg => rfl); (case hr => first | (go_simp; done) | (go_simp; rfl)); intro gb128 hg w3 hbox hb; have n0_ := Az.mk (below_step (by repeat (first | (with_reducible first | exact HB.out | apply zq2 | apply zq1 | apply below_drew1) | exact HB.out)) hb); have n1_ := Az.mk (hbox); have n2_ := Az.mk ((by rw [hg]; exact (below_size (by repeat (first | (with_reducible first | exact HB.out | apply zq2 | apply zq1 | apply below_drew1) | exact HB.out))) : w.heap.size ≤ gb128)); have n3_ := Az.mk ((by rw [hg]; exact (below_size (by repeat (first | (with_reducible first | exact HB.out | apply zq2 | apply zq1 | apply below_drew1) | exact HB.out))) : w.heap.size ≤ gb128)); clear HB; have HB := n0_; have BK128 := n1_; have GW128 := n2_; have GE128 := n3_; clear n0_ n1_ n2_ n3_; clear hb hbox hg))
  (try simp only [Act.put, List.setIfInBounds_toArray, List.set_cons_zero, List.set_cons_succ])
  go_cut [34] (fun v34 wc => ∃ (kq : Nat) (x34_1 : Bool), v34 = .bool x34_1 ∧ Az (spec_DiskOk.j0 kq x34_1 a0_0 l0_1 l0_2 l0_3 l0_4 = some r) ∧ Az (kq ≤ k) ∧ Az (wc.heap[gb128]? = some (.cells #[.int .i64 a0_0, (.slice A0_1 l0_1.length c0_1), (.slice A0_2 l0_2.length c0_2), (.slice A0_3 l0_3.length c0_3), (.slice A0_4 l0_4.length c0_4)] 28 (0, 0))) ∧ Az (Below w.heap.size w wc))
  case first =>
    have H := HC2.out
    clear HC2
    replace H := Option.bind_eq_some_iff.mp H
    obtain ⟨t129, A40, H⟩ := H
    replace H : (if t129 = true then (if (l0_1.length : Int) = 12 then (if (l0_2.length : Int) = 2 then (if (l0_3.length : Int) = 12 then (spec_DiskOk.j0 k (decide ((l0_4.length : Int) > 40)) a0_0 l0_1 l0_2 l0_3 l0_4) else (spec_DiskOk.j0 k true a0_0 l0_1 l0_2 l0_3 l0_4)) else (spec_DiskOk.j0 k true a0_0 l0_1 l0_2 l0_3 l0_4)) else (spec_DiskOk.j0 k true a0_0 l0_1 l0_2 l0_3 l0_4)) else (spec_DiskOk.j0 k true a0_0 l0_1 l0_2 l0_3 l0_4)) = some r := H
    have A4 := Az.mk A40
    clear A40
    by_cases c5 : t129 = true
    · subst c5
      have H1 : (if (l0_1.length : Int) = 12 then (if (l0_2.length : Int) = 2 then (if (l0_3.length : Int) = 12 then (spec_DiskOk.j0 k (decide ((l0_4.length : Int) > 40)) a0_0 l0_1 l0_2 l0_3 l0_4) else (spec_DiskOk.j0 k true a0_0 l0_1 l0_2 l0_3 l0_4)) else (spec_DiskOk.j0 k true a0_0 l0_1 l0_2 l0_3 l0_4)) else (spec_DiskOk.j0 k true a0_0 l0_1 l0_2 l0_3 l0_4)) = some r := by rw [if_pos rfl] at H; exact H
      clear H
      have H := H1
      clear H1
      by_cases c6 : (l0_1.length : Int) = 12
      · rw [if_pos c6] at H
        have c6b0 : ((l0_1.length : Int) == 12) = true := beq_iff_eq.mpr c6
        have c6b1 : ((l0_1.length : Int) != 12) = false := bne_eq_false_iff_eq.mpr c6
        clear c6
        (first | rw [c6b0] | (simp only [i64_w, i32_w]; rw [c6b0]) | skip)
        by_cases c7 : (l0_2.length : Int) = 2
        · rw [if_pos c7] at H
          have c7b0 : ((l0_2.length : Int) == 2) = true := beq_iff_eq.mpr c7
          have c7b1 : ((l0_2.length : Int) != 2) = false := bne_eq_false_iff_eq.mpr c7
          clear c7
          by_cases c8 : (l0_3.length : Int) = 12
          · rw [if_pos c8] at H
            have c8b0 : ((l0_3.length : Int) == 12) = true := beq_iff_eq.mpr c8
            have c8b1 : ((l0_3.length : Int) != 12) = false := bne_eq_false_iff_eq.mpr c8
            clear c8
            have H' := Az.mk H
            clear H
            have hcz9_0 : w3.cell? ⟨gb128, 0, none⟩ = some (.int .i64 a0_0) := (zq4 BK128.out 0).trans rfl
            have hcz9_1 : w3.cell? ⟨gb128, 1, none⟩ = some (.slice A0_1 l0_1.length c0_1) := (zq4 BK128.out 1).trans rfl
            have hcz9_2 : w3.cell? ⟨gb128, 2, none⟩ = some (.slice A0_2 l0_2.length c0_2) := (zq4 BK128.out 2).trans rfl
            have hcz9_3 : w3.cell? ⟨gb128, 3, none⟩ = some (.slice A0_3 l0_3.length c0_3) := (zq4 BK128.out 3).trans rfl
            have hcz9_4 : w3.cell? ⟨gb128, 4, none⟩ = some (.slice A0_4 l0_4.length c0_4) := (zq4 BK128.out 4).trans rfl
            have hfz9_0 := zq5 BK128.out 0
            have hfz9_1 := zq5 BK128.out 1
            have hfz9_2 := zq5 BK128.out 2
            have hfz9_3 := zq5 BK128.out 3
            have hfz9_4 := zq5 BK128.out 4
            go_wp2_with (first | ((with_reducible refine gate_callee (f := 51) rfl ?_); refine zq9 (some 9) rfl rfl Try.func51 (by kernel_rfl) rfl #[.int .i64 a0_0, .int .i64 0, .int .i64 2] rfl (by (try simp only [List.map_toArray, List.map_cons, List.map_nil]); first | done | rfl | (simp only [List.length_drop, List.length_take]; rfl)) ?_; (with_reducible refine (spec_l6In.calls a0_0 0 2 true _ A4.out).mono ?_); rintro e w' ⟨rfl, ⟨nd, rfl⟩⟩; refine ⟨_, rfl, ?_⟩))
            go_meet
            case rel => exact ⟨_, (decide ((l0_4.length : Int) > 40)), (by first | rfl | (simp; done) | (simp [*]; done)), H', ⟨by first | omega | exact Nat.le_refl _⟩, ⟨by (with_reducible repeat (first | refine zq6 ?_ _ | refine zq8 ?_ | refine zq7 ?_ _)); exact BK128.out⟩, ⟨by repeat (first | (with_reducible first | exact HB.out | apply zq2 | apply zq1 | apply below_drew1 | refine zq3 ?_ GE128.out) | exact HB.out)⟩⟩
          · rw [if_neg c8] at H
            have c8b0 : ((l0_3.length : Int) == 12) = false := beq_eq_false_iff_ne.mpr c8
            have c8b1 : ((l0_3.length : Int) != 12) = true := bne_iff_ne.mpr c8
            have H' := Az.mk H
            clear H
            have hcz10_0 : w3.cell? ⟨gb128, 0, none⟩ = some (.int .i64 a0_0) := (zq4 BK128.out 0).trans rfl
            have hcz10_1 : w3.cell? ⟨gb128, 1, none⟩ = some (.slice A0_1 l0_1.length c0_1) := (zq4 BK128.out 1).trans rfl
            have hcz10_2 : w3.cell? ⟨gb128, 2, none⟩ = some (.slice A0_2 l0_2.length c0_2) := (zq4 BK128.out 2).trans rfl
            have hcz10_3 : w3.cell? ⟨gb128, 3, none⟩ = some (.slice A0_3 l0_3.length c0_3) := (zq4 BK128.out 3).trans rfl
            have hcz10_4 : w3.cell? ⟨gb128, 4, none⟩ = some (.slice A0_4 l0_4.length c0_4) := (zq4 BK128.out 4).trans rfl
            have hfz10_0 := zq5 BK128.out 0
            have hfz10_1 := zq5 BK128.out 1
            have hfz10_2 := zq5 BK128.out 2
            have hfz10_3 := zq5 BK128.out 3
            have hfz10_4 := zq5 BK128.out 4
            go_wp2_with (first | ((with_reducible refine gate_callee (f := 51) rfl ?_); refine zq9 (some 9) rfl rfl Try.func51 (by kernel_rfl) rfl #[.int .i64 a0_0, .int .i64 0, .int .i64 2] rfl (by (try simp only [List.map_toArray, List.map_cons, List.map_nil]); first | done | rfl | (simp only [List.length_drop, List.length_take]; rfl)) ?_; (with_reducible refine (spec_l6In.calls a0_0 0 2 true _ A4.out).mono ?_); rintro e w' ⟨rfl, ⟨nd, rfl⟩⟩; refine ⟨_, rfl, ?_⟩))
            go_meet
            case rel => exact ⟨_, (true), (by first | rfl | (simp; done) | (simp [*]; done)), H', ⟨by first | omega | exact Nat.le_refl _⟩, ⟨by (with_reducible repeat (first | refine zq6 ?_ _ | refine zq8 ?_ | refine zq7 ?_ _)); exact BK128.out⟩, ⟨by repeat (first | (with_reducible first | exact HB.out | apply zq2 | apply zq1 | apply below_drew1 | refine zq3 ?_ GE128.out) | exact HB.out)⟩⟩
        · rw [if_neg c7] at H
          have c7b0 : ((l0_2.length : Int) == 2) = false := beq_eq_false_iff_ne.mpr c7
          have c7b1 : ((l0_2.length : Int) != 2) = true := bne_iff_ne.mpr c7
          have H' := Az.mk H
          clear H
          have hcz11_0 : w3.cell? ⟨gb128, 0, none⟩ = some (.int .i64 a0_0) := (zq4 BK128.out 0).trans rfl
          have hcz11_1 : w3.cell? ⟨gb128, 1, none⟩ = some (.slice A0_1 l0_1.length c0_1) := (zq4 BK128.out 1).trans rfl
          have hcz11_2 : w3.cell? ⟨gb128, 2, none⟩ = some (.slice A0_2 l0_2.length c0_2) := (zq4 BK128.out 2).trans rfl
          have hcz11_3 : w3.cell? ⟨gb128, 3, none⟩ = some (.slice A0_3 l0_3.length c0_3) := (zq4 BK128.out 3).trans rfl
          have hcz11_4 : w3.cell? ⟨gb128, 4, none⟩ = some (.slice A0_4 l0_4.length c0_4) := (zq4 BK128.out 4).trans rfl
          have hfz11_0 := zq5 BK128.out 0
          have hfz11_1 := zq5 BK128.out 1
          have hfz11_2 := zq5 BK128.out 2
          have hfz11_3 := zq5 BK128.out 3
          have hfz11_4 := zq5 BK128.out 4
          go_wp2_with (first | ((with_reducible refine gate_callee (f := 51) rfl ?_); refine zq9 (some 9) rfl rfl Try.func51 (by kernel_rfl) rfl #[.int .i64 a0_0, .int .i64 0, .int .i64 2] rfl (by (try simp only [List.map_toArray, List.map_cons, List.map_nil]); first | done | rfl | (simp only [List.length_drop, List.length_take]; rfl)) ?_; (with_reducible refine (spec_l6In.calls a0_0 0 2 true _ A4.out).mono ?_); rintro e w' ⟨rfl, ⟨nd, rfl⟩⟩; refine ⟨_, rfl, ?_⟩))
          go_meet
          case rel => exact ⟨_, (true), (by first | rfl | (simp; done) | (simp [*]; done)), H', ⟨by first | omega | exact Nat.le_refl _⟩, ⟨by (with_reducible repeat (first | refine zq6 ?_ _ | refine zq8 ?_ | refine zq7 ?_ _)); exact BK128.out⟩, ⟨by repeat (first | (with_reducible first | exact HB.out | apply zq2 | apply zq1 | apply below_drew1 | refine zq3 ?_ GE128.out) | exact HB.out)⟩⟩
      · rw [if_neg c6] at H
        have c6b0 : ((l0_1.length : Int) == 12) = false := beq_eq_false_iff_ne.mpr c6
        have c6b1 : ((l0_1.length : Int) != 12) = true := bne_iff_ne.mpr c6
        (first | rw [c6b0] | (simp only [i64_w, i32_w]; rw [c6b0]) | skip)
        have H' := Az.mk H
        clear H
        have hcz12_0 : w3.cell? ⟨gb128, 0, none⟩ = some (.int .i64 a0_0) := (zq4 BK128.out 0).trans rfl
        have hcz12_1 : w3.cell? ⟨gb128, 1, none⟩ = some (.slice A0_1 l0_1.length c0_1) := (zq4 BK128.out 1).trans rfl
        have hcz12_2 : w3.cell? ⟨gb128, 2, none⟩ = some (.slice A0_2 l0_2.length c0_2) := (zq4 BK128.out 2).trans rfl
        have hcz12_3 : w3.cell? ⟨gb128, 3, none⟩ = some (.slice A0_3 l0_3.length c0_3) := (zq4 BK128.out 3).trans rfl
        have hcz12_4 : w3.cell? ⟨gb128, 4, none⟩ = some (.slice A0_4 l0_4.length c0_4) := (zq4 BK128.out 4).trans rfl
        have hfz12_0 := zq5 BK128.out 0
        have hfz12_1 := zq5 BK128.out 1
        have hfz12_2 := zq5 BK128.out 2
        have hfz12_3 := zq5 BK128.out 3
        have hfz12_4 := zq5 BK128.out 4
        go_wp2_with (first | ((with_reducible refine gate_callee (f := 51) rfl ?_); refine zq9 (some 9) rfl rfl Try.func51 (by kernel_rfl) rfl #[.int .i64 a0_0, .int .i64 0, .int .i64 2] rfl (by (try simp only [List.map_toArray, List.map_cons, List.map_nil]); first | done | rfl | (simp only [List.length_drop, List.length_take]; rfl)) ?_; (with_reducible refine (spec_l6In.calls a0_0 0 2 true _ A4.out).mono ?_); rintro e w' ⟨rfl, ⟨nd, rfl⟩⟩; refine ⟨_, rfl, ?_⟩))
        go_meet
        case rel => exact ⟨_, (true), (by first | rfl | (simp; done) | (simp [*]; done)), H', ⟨by first | omega | exact Nat.le_refl _⟩, ⟨by (with_reducible repeat (first | refine zq6 ?_ _ | refine zq8 ?_ | refine zq7 ?_ _)); exact BK128.out⟩, ⟨by repeat (first | (with_reducible first | exact HB.out | apply zq2 | apply zq1 | apply below_drew1 | refine zq3 ?_ GE128.out) | exact HB.out)⟩⟩
    · replace c5 := Bool.eq_false_iff.mpr c5
      subst c5
      have H1 : (spec_DiskOk.j0 k true a0_0 l0_1 l0_2 l0_3 l0_4) = some r := by rw [if_neg (show ¬ (false = true) by decide)] at H; exact H
      clear H
      have H := H1
      clear H1
      have H' := Az.mk H
      clear H
      have hcz13_0 : w3.cell? ⟨gb128, 0, none⟩ = some (.int .i64 a0_0) := (zq4 BK128.out 0).trans rfl
      have hcz13_1 : w3.cell? ⟨gb128, 1, none⟩ = some (.slice A0_1 l0_1.length c0_1) := (zq4 BK128.out 1).trans rfl
      have hcz13_2 : w3.cell? ⟨gb128, 2, none⟩ = some (.slice A0_2 l0_2.length c0_2) := (zq4 BK128.out 2).trans rfl
      have hcz13_3 : w3.cell? ⟨gb128, 3, none⟩ = some (.slice A0_3 l0_3.length c0_3) := (zq4 BK128.out 3).trans rfl
      have hcz13_4 : w3.cell? ⟨gb128, 4, none⟩ = some (.slice A0_4 l0_4.length c0_4) := (zq4 BK128.out 4).trans rfl
      have hfz13_0 := zq5 BK128.out 0
      have hfz13_1 := zq5 BK128.out 1
      have hfz13_2 := zq5 BK128.out 2
      have hfz13_3 := zq5 BK128.out 3
      have hfz13_4 := zq5 BK128.out 4
      go_wp2_with (first | ((with_reducible refine gate_callee (f := 51) rfl ?_); refine zq9 (some 9) rfl rfl Try.func51 (by kernel_rfl) rfl #[.int .i64 a0_0, .int .i64 0, .int .i64 2] rfl (by (try simp only [List.map_toArray, List.map_cons, List.map_nil]); first | done | rfl | (simp only [List.length_drop, List.length_take]; rfl)) ?_; (with_reducible refine (spec_l6In.calls a0_0 0 2 false _ A4.out).mono ?_); rintro e w' ⟨rfl, ⟨nd, rfl⟩⟩; refine ⟨_, rfl, ?_⟩))
      go_meet
      case rel => exact ⟨_, (true), (by first | rfl | (simp; done) | (simp [*]; done)), H', ⟨by first | omega | exact Nat.le_refl _⟩, ⟨by (with_reducible repeat (first | refine zq6 ?_ _ | refine zq8 ?_ | refine zq7 ?_ _)); exact BK128.out⟩, ⟨by repeat (first | (with_reducible first | exact HB.out | apply zq2 | apply zq1 | apply below_drew1 | refine zq3 ?_ GE128.out) | exact HB.out)⟩⟩
  case rest =>
    clear HC2
    try clear c2
    try clear p2
    try clear c5
    try clear c6
    try clear c6b0
    try clear c6b1
    try clear c7
    try clear c7b0
    try clear c7b1
    try clear c8
    try clear c8b0
    try clear c8b1
    try clear hcz10_0
    try clear hcz10_1
    try clear hcz10_2
    try clear hcz10_3
    try clear hcz10_4
    try clear hcz11_0
    try clear hcz11_1
    try clear hcz11_2
    try clear hcz11_3
    try clear hcz11_4
    try clear hcz12_0
    try clear hcz12_1
    try clear hcz12_2
    try clear hcz12_3
    try clear hcz12_4
    try clear hcz13_0
    try clear hcz13_1
    try clear hcz13_2
    try clear hcz13_3
    try clear hcz13_4
    try clear hcz9_0
    try clear hcz9_1
    try clear hcz9_2
    try clear hcz9_3
    try clear hcz9_4
    try clear hfz10_0
    try clear hfz10_1
    try clear hfz10_2
    try clear hfz10_3
    try clear hfz10_4
    try clear hfz11_0
    try clear hfz11_1
    try clear hfz11_2
    try clear hfz11_3
    try clear hfz11_4
    try clear hfz12_0
    try clear hfz12_1
    try clear hfz12_2
    try clear hfz12_3
    try clear hfz12_4
    try clear hfz13_0
    try clear hfz13_1
    try clear hfz13_2
    try clear hfz13_3
    try clear hfz13_4
    try clear hfz9_0
    try clear hfz9_1
    try clear hfz9_2
    try clear hfz9_3
    try clear hfz9_4
    obtain ⟨kq, x34_1, rfl, HA, HJ1, BK128, HB⟩ := hcut
    cases kq with
    | zero => exact absurd HA.out (by simp [spec_DiskOk.j0])
    | succ kj1 =>
      have H := HA.out
      clear HA
      simp only [spec_DiskOk.j0] at H
      by_cases c14 : x34_1 = true
      · subst c14
        have H1 : (some false) = some r := by rw [if_pos rfl] at H; exact H
        clear H
        have H := H1
        clear H1
        obtain rfl := Option.some.inj H
        go_wp2
        go_ret
        exact ⟨by first | rfl | (simp [errW_none, errW_some] <;> rfl) | (simp [*, errW_none, errW_some] <;> rfl), by repeat (first | (with_reducible first | exact HB.out | apply zq2 | apply zq1 | apply below_drew1 | refine zq3 ?_ GE128.out) | exact HB.out)⟩
      · replace c14 := Bool.eq_false_iff.mpr c14
        subst c14
        have H1 : (spec_DiskOk.l0 kj1 0 a0_0 l0_1 l0_2 l0_3 l0_4) = some r := by rw [if_neg (show ¬ (false = true) by decide)] at H; exact H
        clear H
        have H := H1
        clear H1
        have H' := Az.mk H
        clear H
        go_wp2
        go_loopg [3] kj1 (fun kq v3 w' => ∃ (x3_2 : Int), v3 = .int .i64 x3_2 ∧ Az (spec_DiskOk.l0 kq x3_2 a0_0 l0_1 l0_2 l0_3 l0_4 = some r) ∧ Az (kq ≤ kj1) ∧ Az (w'.heap[gb128]? = some (.cells #[.int .i64 a0_0, (.slice A0_1 l0_1.length c0_1), (.slice A0_2 l0_2.length c0_2), (.slice A0_3 l0_3.length c0_3), (.slice A0_4 l0_4.length c0_4)] 28 (0, 0))) ∧ Az (Below w.heap.size w w'))
        case atStart => exact ⟨(0), (by first | rfl | (simp; done) | (simp [*]; done)), H', ⟨Nat.le_refl _⟩, ⟨by (with_reducible repeat (first | refine zq6 ?_ _ | refine zq8 ?_ | refine zq7 ?_ _)); exact BK128.out⟩, ⟨by repeat (first | (with_reducible first | exact HB.out | apply zq2 | apply zq1 | apply below_drew1 | refine zq3 ?_ GE128.out) | exact HB.out)⟩⟩
        case round =>
          clear H'
          try clear c1
          try clear c2
          try clear p2
          try clear c5
          try clear c6
          try clear c6b0
          try clear c6b1
          try clear c7
          try clear c7b0
          try clear c7b1
          try clear c8
          try clear c8b0
          try clear c8b1
          try clear c14
          try clear hcz10_0
          try clear hcz10_1
          try clear hcz10_2
          try clear hcz10_3
          try clear hcz10_4
          try clear hcz11_0
          try clear hcz11_1
          try clear hcz11_2
          try clear hcz11_3
          try clear hcz11_4
          try clear hcz12_0
          try clear hcz12_1
          try clear hcz12_2
          try clear hcz12_3
          try clear hcz12_4
          try clear hcz13_0
          try clear hcz13_1
          try clear hcz13_2
          try clear hcz13_3
          try clear hcz13_4
          try clear hcz9_0
          try clear hcz9_1
          try clear hcz9_2
          try clear hcz9_3
          try clear hcz9_4
          try clear hfz10_0
          try clear hfz10_1
          try clear hfz10_2
          try clear hfz10_3
          try clear hfz10_4
          try clear hfz11_0
          try clear hfz11_1
          try clear hfz11_2
          try clear hfz11_3
          try clear hfz11_4
          try clear hfz12_0
          try clear hfz12_1
          try clear hfz12_2
          try clear hfz12_3
          try clear hfz12_4
          try clear hfz13_0
          try clear hfz13_1
          try clear hfz13_2
          try clear hfz13_3
          try clear hfz13_4
          try clear hfz9_0
          try clear hfz9_1
          try clear hfz9_2
          try clear hfz9_3
          try clear hfz9_4
          try clear p2
          obtain ⟨x3_2, rfl, HA, HK2, BK128, HB⟩ := hrel
          cases gk with
          | zero => exact absurd HA.out (by simp [spec_DiskOk.l0])
          | succ k2 =>
            have H := HA.out
            clear HA
            simp only [spec_DiskOk.l0] at H
            by_cases c15 : x3_2 < (l0_1.length : Int)
            · rw [if_pos c15] at H
              have c15b0 : decide (x3_2 < (l0_1.length : Int)) = true := decide_eq_true c15
              clear c15
              by_cases c16 : 0 ≤ x3_2
              · rw [if_pos c16] at H
                have c16b0 : decide (0 ≤ x3_2) = true := decide_eq_true c16
                clear c16
                by_cases c17 : ((rdOf ByteArray.empty l0_1 x3_2).size : Int) = 0
                · rw [if_pos c17] at H
                  have c17b0 : (((rdOf ByteArray.empty l0_1 x3_2).size : Int) == 0) = true := beq_iff_eq.mpr c17
                  have c17b1 : (((rdOf ByteArray.empty l0_1 x3_2).size : Int) != 0) = false := bne_eq_false_iff_eq.mpr c17
                  clear c17
                  by_cases c18 : x3_2 < (l0_3.length : Int)
                  · rw [if_pos c18] at H
                    have c18b0 : decide (x3_2 < (l0_3.length : Int)) = true := decide_eq_true c18
                    clear c18
                    obtain ⟨bq19, hbq19⟩ : ∃ b_ : Bool, b_ = (rdOf false l0_3 x3_2) := ⟨_, rfl⟩
                    replace H : (if bq19 = true then (some false) else (if a0_0 = 1 then (if ((rdOf ByteArray.empty l0_1 x3_2).size : Int) > 0 then (some false) else (spec_DiskOk.l0 k2 (wrap64 (x3_2 + 1)) a0_0 l0_1 l0_2 l0_3 l0_4)) else (spec_DiskOk.l0 k2 (wrap64 (x3_2 + 1)) a0_0 l0_1 l0_2 l0_3 l0_4))) = some r := by rw [← hbq19] at H; exact H
                    have Nbq19 := Az.mk hbq19
                    clear hbq19
                    by_cases c20 : bq19 = true
                    · subst c20
                      have H1 : (some false) = some r := by rw [if_pos rfl] at H; exact H
                      clear H
                      have H := H1
                      clear H1
                      obtain rfl := Option.some.inj H
                      have hcz21_0 : wr.cell? ⟨gb128, 0, none⟩ = some (.int .i64 a0_0) := (zq4 BK128.out 0).trans rfl
                      have hcz21_1 : wr.cell? ⟨gb128, 1, none⟩ = some (.slice A0_1 l0_1.length c0_1) := (zq4 BK128.out 1).trans rfl
                      have hcz21_2 : wr.cell? ⟨gb128, 2, none⟩ = some (.slice A0_2 l0_2.length c0_2) := (zq4 BK128.out 2).trans rfl
                      have hcz21_3 : wr.cell? ⟨gb128, 3, none⟩ = some (.slice A0_3 l0_3.length c0_3) := (zq4 BK128.out 3).trans rfl
                      have hcz21_4 : wr.cell? ⟨gb128, 4, none⟩ = some (.slice A0_4 l0_4.length c0_4) := (zq4 BK128.out 4).trans rfl
                      have hfz21_0 := zq5 BK128.out 0
                      have hfz21_1 := zq5 BK128.out 1
                      have hfz21_2 := zq5 BK128.out 2
                      have hfz21_3 := zq5 BK128.out 3
                      have hfz21_4 := zq5 BK128.out 4
                      have p130 : 0 ≤ (x3_2 : Int) := of_decide_eq_true (by first | (with_reducible assumption) | assumption)
                      have q130 : x3_2 < (l0_1.length : Int) := of_decide_eq_true (by first | (with_reducible assumption) | assumption)
                      obtain ⟨ad130, e130, hx130_0⟩ := Kd.at_string HR0_1.out x3_2 p130 q130
                      cases e130
                      replace hx130_0 := (HB.out.cell (World.block_lt_of_cell? w _ hx130_0)).trans hx130_0
                      replace p130 := eq_true p130
                      replace q130 := eq_true q130
                      have p131 : 0 ≤ (x3_2 : Int) := of_decide_eq_true (by first | (with_reducible assumption) | assumption)
                      have q131 : x3_2 < (l0_3.length : Int) := of_decide_eq_true (by first | (with_reducible assumption) | assumption)
                      obtain ⟨ad131, e131, hx131_0⟩ := Kd.at_bool HR0_3.out x3_2 p131 q131
                      (try rw [← Nbq19.out] at hx131_0)
                      cases e131
                      replace hx131_0 := (HB.out.cell (World.block_lt_of_cell? w _ hx131_0)).trans hx131_0
                      replace p131 := eq_true p131
                      replace q131 := eq_true q131
                      go_wp2
                      go_ret
                      exact ⟨by first | rfl | (simp [errW_none, errW_some] <;> rfl) | (simp [*, errW_none, errW_some] <;> rfl), by repeat (first | (with_reducible first | exact HB.out | apply zq2 | apply zq1 | apply below_drew1 | refine zq3 ?_ GE128.out) | exact HB.out)⟩
                    · replace c20 := Bool.eq_false_iff.mpr c20
                      subst c20
                      have H1 : (if a0_0 = 1 then (if ((rdOf ByteArray.empty l0_1 x3_2).size : Int) > 0 then (some false) else (spec_DiskOk.l0 k2 (wrap64 (x3_2 + 1)) a0_0 l0_1 l0_2 l0_3 l0_4)) else (spec_DiskOk.l0 k2 (wrap64 (x3_2 + 1)) a0_0 l0_1 l0_2 l0_3 l0_4)) = some r := by rw [if_neg (show ¬ (false = true) by decide)] at H; exact H
                      clear H
                      have H := H1
                      clear H1
                      by_cases c22 : a0_0 = 1
                      · rw [if_pos c22] at H
                        have c22b0 : (a0_0 == 1) = true := beq_iff_eq.mpr c22
                        have c22b1 : (a0_0 != 1) = false := bne_eq_false_iff_eq.mpr c22
                        clear c22
                        by_cases c23 : ((rdOf ByteArray.empty l0_1 x3_2).size : Int) > 0
                        · rw [if_pos c23] at H
                          have c23b0 : decide (0 < ((rdOf ByteArray.empty l0_1 x3_2).size : Int)) = true := decide_eq_true c23
                          have c23b1 : decide (0 < (rdOf ByteArray.empty l0_1 x3_2).size) = true := decide_eq_true (by omega)
                          clear c23
                          obtain rfl := Option.some.inj H
                          have hcz24_0 : wr.cell? ⟨gb128, 0, none⟩ = some (.int .i64 a0_0) := (zq4 BK128.out 0).trans rfl
                          have hcz24_1 : wr.cell? ⟨gb128, 1, none⟩ = some (.slice A0_1 l0_1.length c0_1) := (zq4 BK128.out 1).trans rfl
                          have hcz24_2 : wr.cell? ⟨gb128, 2, none⟩ = some (.slice A0_2 l0_2.length c0_2) := (zq4 BK128.out 2).trans rfl
                          have hcz24_3 : wr.cell? ⟨gb128, 3, none⟩ = some (.slice A0_3 l0_3.length c0_3) := (zq4 BK128.out 3).trans rfl
                          have hcz24_4 : wr.cell? ⟨gb128, 4, none⟩ = some (.slice A0_4 l0_4.length c0_4) := (zq4 BK128.out 4).trans rfl
                          have hfz24_0 := zq5 BK128.out 0
                          have hfz24_1 := zq5 BK128.out 1
                          have hfz24_2 := zq5 BK128.out 2
                          have hfz24_3 := zq5 BK128.out 3
                          have hfz24_4 := zq5 BK128.out 4
                          have p130 : 0 ≤ (x3_2 : Int) := of_decide_eq_true (by first | (with_reducible assumption) | assumption)
                          have q130 : x3_2 < (l0_1.length : Int) := of_decide_eq_true (by first | (with_reducible assumption) | assumption)
                          obtain ⟨ad130, e130, hx130_0⟩ := Kd.at_string HR0_1.out x3_2 p130 q130
                          cases e130
                          replace hx130_0 := (HB.out.cell (World.block_lt_of_cell? w _ hx130_0)).trans hx130_0
                          replace p130 := eq_true p130
                          replace q130 := eq_true q130
                          have p131 : 0 ≤ (x3_2 : Int) := of_decide_eq_true (by first | (with_reducible assumption) | assumption)
                          have q131 : x3_2 < (l0_3.length : Int) := of_decide_eq_true (by first | (with_reducible assumption) | assumption)
                          obtain ⟨ad131, e131, hx131_0⟩ := Kd.at_bool HR0_3.out x3_2 p131 q131
                          (try rw [← Nbq19.out] at hx131_0)
                          cases e131
                          replace hx131_0 := (HB.out.cell (World.block_lt_of_cell? w _ hx131_0)).trans hx131_0
                          replace p131 := eq_true p131
                          replace q131 := eq_true q131
                          go_wp2
                          go_ret
                          exact ⟨by first | rfl | (simp [errW_none, errW_some] <;> rfl) | (simp [*, errW_none, errW_some] <;> rfl), by repeat (first | (with_reducible first | exact HB.out | apply zq2 | apply zq1 | apply below_drew1 | refine zq3 ?_ GE128.out) | exact HB.out)⟩
                        · rw [if_neg c23] at H
                          have c23b0 : decide (0 < ((rdOf ByteArray.empty l0_1 x3_2).size : Int)) = false := decide_eq_false c23
                          have c23b1 : decide (0 < (rdOf ByteArray.empty l0_1 x3_2).size) = false := decide_eq_false (by omega)
                          clear c23
                          have H' := Az.mk H
                          clear H
                          have hcz25_0 : wr.cell? ⟨gb128, 0, none⟩ = some (.int .i64 a0_0) := (zq4 BK128.out 0).trans rfl
                          have hcz25_1 : wr.cell? ⟨gb128, 1, none⟩ = some (.slice A0_1 l0_1.length c0_1) := (zq4 BK128.out 1).trans rfl
                          have hcz25_2 : wr.cell? ⟨gb128, 2, none⟩ = some (.slice A0_2 l0_2.length c0_2) := (zq4 BK128.out 2).trans rfl
                          have hcz25_3 : wr.cell? ⟨gb128, 3, none⟩ = some (.slice A0_3 l0_3.length c0_3) := (zq4 BK128.out 3).trans rfl
                          have hcz25_4 : wr.cell? ⟨gb128, 4, none⟩ = some (.slice A0_4 l0_4.length c0_4) := (zq4 BK128.out 4).trans rfl
                          have hfz25_0 := zq5 BK128.out 0
                          have hfz25_1 := zq5 BK128.out 1
                          have hfz25_2 := zq5 BK128.out 2
                          have hfz25_3 := zq5 BK128.out 3
                          have hfz25_4 := zq5 BK128.out 4
                          have p130 : 0 ≤ (x3_2 : Int) := of_decide_eq_true (by first | (with_reducible assumption) | assumption)
                          have q130 : x3_2 < (l0_1.length : Int) := of_decide_eq_true (by first | (with_reducible assumption) | assumption)
                          obtain ⟨ad130, e130, hx130_0⟩ := Kd.at_string HR0_1.out x3_2 p130 q130
                          cases e130
                          replace hx130_0 := (HB.out.cell (World.block_lt_of_cell? w _ hx130_0)).trans hx130_0
                          replace p130 := eq_true p130
                          replace q130 := eq_true q130
                          have p131 : 0 ≤ (x3_2 : Int) := of_decide_eq_true (by first | (with_reducible assumption) | assumption)
                          have q131 : x3_2 < (l0_3.length : Int) := of_decide_eq_true (by first | (with_reducible assumption) | assumption)
                          obtain ⟨ad131, e131, hx131_0⟩ := Kd.at_bool HR0_3.out x3_2 p131 q131
                          (try rw [← Nbq19.out] at hx131_0)
                          cases e131
                          replace hx131_0 := (HB.out.cell (World.block_lt_of_cell? w _ hx131_0)).trans hx131_0
                          replace p131 := eq_true p131
                          replace q131 := eq_true q131
                          go_wp2
                          go_roundg k2
                          case measure => have := HJ1.out; have := HK2.out; omega
                          case rel => exact ⟨(wrap64 (x3_2 + 1)), (by first | rfl | (simp; done) | (simp [*]; done)), H', ⟨by have := HJ1.out; have := HK2.out; omega⟩, ⟨by (with_reducible repeat (first | refine zq6 ?_ _ | refine zq8 ?_ | refine zq7 ?_ _)); exact BK128.out⟩, ⟨by repeat (first | (with_reducible first | exact HB.out | apply zq2 | apply zq1 | apply below_drew1 | refine zq3 ?_ GE128.out) | exact HB.out)⟩⟩
                      · rw [if_neg c22] at H
                        have c22b0 : (a0_0 == 1) = false := beq_eq_false_iff_ne.mpr c22
                        have c22b1 : (a0_0 != 1) = true := bne_iff_ne.mpr c22
                        have H' := Az.mk H
                        clear H
                        have hcz26_0 : wr.cell? ⟨gb128, 0, none⟩ = some (.int .i64 a0_0) := (zq4 BK128.out 0).trans rfl
                        have hcz26_1 : wr.cell? ⟨gb128, 1, none⟩ = some (.slice A0_1 l0_1.length c0_1) := (zq4 BK128.out 1).trans rfl
                        have hcz26_2 : wr.cell? ⟨gb128, 2, none⟩ = some (.slice A0_2 l0_2.length c0_2) := (zq4 BK128.out 2).trans rfl
                        have hcz26_3 : wr.cell? ⟨gb128, 3, none⟩ = some (.slice A0_3 l0_3.length c0_3) := (zq4 BK128.out 3).trans rfl
                        have hcz26_4 : wr.cell? ⟨gb128, 4, none⟩ = some (.slice A0_4 l0_4.length c0_4) := (zq4 BK128.out 4).trans rfl
                        have hfz26_0 := zq5 BK128.out 0
                        have hfz26_1 := zq5 BK128.out 1
                        have hfz26_2 := zq5 BK128.out 2
                        have hfz26_3 := zq5 BK128.out 3
                        have hfz26_4 := zq5 BK128.out 4
                        have p130 : 0 ≤ (x3_2 : Int) := of_decide_eq_true (by first | (with_reducible assumption) | assumption)
                        have q130 : x3_2 < (l0_1.length : Int) := of_decide_eq_true (by first | (with_reducible assumption) | assumption)
                        obtain ⟨ad130, e130, hx130_0⟩ := Kd.at_string HR0_1.out x3_2 p130 q130
                        cases e130
                        replace hx130_0 := (HB.out.cell (World.block_lt_of_cell? w _ hx130_0)).trans hx130_0
                        replace p130 := eq_true p130
                        replace q130 := eq_true q130
                        have p131 : 0 ≤ (x3_2 : Int) := of_decide_eq_true (by first | (with_reducible assumption) | assumption)
                        have q131 : x3_2 < (l0_3.length : Int) := of_decide_eq_true (by first | (with_reducible assumption) | assumption)
                        obtain ⟨ad131, e131, hx131_0⟩ := Kd.at_bool HR0_3.out x3_2 p131 q131
                        (try rw [← Nbq19.out] at hx131_0)
                        cases e131
                        replace hx131_0 := (HB.out.cell (World.block_lt_of_cell? w _ hx131_0)).trans hx131_0
                        replace p131 := eq_true p131
                        replace q131 := eq_true q131
                        go_wp2
                        go_roundg k2
                        case measure => have := HJ1.out; have := HK2.out; omega
                        case rel => exact ⟨(wrap64 (x3_2 + 1)), (by first | rfl | (simp; done) | (simp [*]; done)), H', ⟨by have := HJ1.out; have := HK2.out; omega⟩, ⟨by (with_reducible repeat (first | refine zq6 ?_ _ | refine zq8 ?_ | refine zq7 ?_ _)); exact BK128.out⟩, ⟨by repeat (first | (with_reducible first | exact HB.out | apply zq2 | apply zq1 | apply below_drew1 | refine zq3 ?_ GE128.out) | exact HB.out)⟩⟩
                  · rw [if_neg c18] at H
                    exact absurd H (by simp)
                · rw [if_neg c17] at H
                  have c17b0 : (((rdOf ByteArray.empty l0_1 x3_2).size : Int) == 0) = false := beq_eq_false_iff_ne.mpr c17
                  have c17b1 : (((rdOf ByteArray.empty l0_1 x3_2).size : Int) != 0) = true := bne_iff_ne.mpr c17
                  by_cases c27 : ((rdOf ByteArray.empty l0_1 x3_2).size : Int) = 3
                  · rw [if_pos c27] at H
                    have c27b0 : (((rdOf ByteArray.empty l0_1 x3_2).size : Int) == 3) = true := beq_iff_eq.mpr c27
                    have c27b1 : (((rdOf ByteArray.empty l0_1 x3_2).size : Int) != 3) = false := bne_eq_false_iff_eq.mpr c27
                    clear c27
                    by_cases c28 : x3_2 < (l0_3.length : Int)
                    · rw [if_pos c28] at H
                      have c28b0 : decide (x3_2 < (l0_3.length : Int)) = true := decide_eq_true c28
                      clear c28
                      obtain ⟨bq29, hbq29⟩ : ∃ b_ : Bool, b_ = (rdOf false l0_3 x3_2) := ⟨_, rfl⟩
                      replace H : (if bq29 = true then (if a0_0 = 1 then (if ((rdOf ByteArray.empty l0_1 x3_2).size : Int) > 0 then (some false) else (spec_DiskOk.l0 k2 (wrap64 (x3_2 + 1)) a0_0 l0_1 l0_2 l0_3 l0_4)) else (spec_DiskOk.l0 k2 (wrap64 (x3_2 + 1)) a0_0 l0_1 l0_2 l0_3 l0_4)) else (if a0_0 = 1 then (if ((rdOf ByteArray.empty l0_1 x3_2).size : Int) > 0 then (some false) else (spec_DiskOk.l0 k2 (wrap64 (x3_2 + 1)) a0_0 l0_1 l0_2 l0_3 l0_4)) else (spec_DiskOk.l0 k2 (wrap64 (x3_2 + 1)) a0_0 l0_1 l0_2 l0_3 l0_4))) = some r := by rw [← hbq29] at H; exact H
                      have Nbq29 := Az.mk hbq29
                      clear hbq29
                      by_cases c30 : bq29 = true
                      · subst c30
                        have H1 : (if a0_0 = 1 then (if ((rdOf ByteArray.empty l0_1 x3_2).size : Int) > 0 then (some false) else (spec_DiskOk.l0 k2 (wrap64 (x3_2 + 1)) a0_0 l0_1 l0_2 l0_3 l0_4)) else (spec_DiskOk.l0 k2 (wrap64 (x3_2 + 1)) a0_0 l0_1 l0_2 l0_3 l0_4)) = some r := by rw [if_pos rfl] at H; exact H
                        clear H
                        have H := H1
                        clear H1
                        by_cases c31 : a0_0 = 1
                        · rw [if_pos c31] at H
                          have c31b0 : (a0_0 == 1) = true := beq_iff_eq.mpr c31
                          have c31b1 : (a0_0 != 1) = false := bne_eq_false_iff_eq.mpr c31
                          clear c31
                          by_cases c32 : ((rdOf ByteArray.empty l0_1 x3_2).size : Int) > 0
                          · rw [if_pos c32] at H
                            have c32b0 : decide (0 < ((rdOf ByteArray.empty l0_1 x3_2).size : Int)) = true := decide_eq_true c32
                            have c32b1 : decide (0 < (rdOf ByteArray.empty l0_1 x3_2).size) = true := decide_eq_true (by omega)
                            clear c32
                            obtain rfl := Option.some.inj H
                            have hcz33_0 : wr.cell? ⟨gb128, 0, none⟩ = some (.int .i64 a0_0) := (zq4 BK128.out 0).trans rfl
                            have hcz33_1 : wr.cell? ⟨gb128, 1, none⟩ = some (.slice A0_1 l0_1.length c0_1) := (zq4 BK128.out 1).trans rfl
                            have hcz33_2 : wr.cell? ⟨gb128, 2, none⟩ = some (.slice A0_2 l0_2.length c0_2) := (zq4 BK128.out 2).trans rfl
                            have hcz33_3 : wr.cell? ⟨gb128, 3, none⟩ = some (.slice A0_3 l0_3.length c0_3) := (zq4 BK128.out 3).trans rfl
                            have hcz33_4 : wr.cell? ⟨gb128, 4, none⟩ = some (.slice A0_4 l0_4.length c0_4) := (zq4 BK128.out 4).trans rfl
                            have hfz33_0 := zq5 BK128.out 0
                            have hfz33_1 := zq5 BK128.out 1
                            have hfz33_2 := zq5 BK128.out 2
                            have hfz33_3 := zq5 BK128.out 3
                            have hfz33_4 := zq5 BK128.out 4
                            have p130 : 0 ≤ (x3_2 : Int) := of_decide_eq_true (by first | (with_reducible assumption) | assumption)
                            have q130 : x3_2 < (l0_1.length : Int) := of_decide_eq_true (by first | (with_reducible assumption) | assumption)
                            obtain ⟨ad130, e130, hx130_0⟩ := Kd.at_string HR0_1.out x3_2 p130 q130
                            cases e130
                            replace hx130_0 := (HB.out.cell (World.block_lt_of_cell? w _ hx130_0)).trans hx130_0
                            replace p130 := eq_true p130
                            replace q130 := eq_true q130
                            have p132 : 0 ≤ (x3_2 : Int) := of_decide_eq_true (by first | (with_reducible assumption) | assumption)
                            have q132 : x3_2 < (l0_3.length : Int) := of_decide_eq_true (by first | (with_reducible assumption) | assumption)
                            obtain ⟨ad132, e132, hx132_0⟩ := Kd.at_bool HR0_3.out x3_2 p132 q132
                            (try rw [← Nbq29.out] at hx132_0)
                            cases e132
                            replace hx132_0 := (HB.out.cell (World.block_lt_of_cell? w _ hx132_0)).trans hx132_0
                            replace p132 := eq_true p132
                            replace q132 := eq_true q132
                            go_wp2
                            go_ret
                            exact ⟨by first | rfl | (simp [errW_none, errW_some] <;> rfl) | (simp [*, errW_none, errW_some] <;> rfl), by repeat (first | (with_reducible first | exact HB.out | apply zq2 | apply zq1 | apply below_drew1 | refine zq3 ?_ GE128.out) | exact HB.out)⟩
                          · rw [if_neg c32] at H
                            have c32b0 : decide (0 < ((rdOf ByteArray.empty l0_1 x3_2).size : Int)) = false := decide_eq_false c32
                            have c32b1 : decide (0 < (rdOf ByteArray.empty l0_1 x3_2).size) = false := decide_eq_false (by omega)
                            clear c32
                            have H' := Az.mk H
                            clear H
                            have hcz34_0 : wr.cell? ⟨gb128, 0, none⟩ = some (.int .i64 a0_0) := (zq4 BK128.out 0).trans rfl
                            have hcz34_1 : wr.cell? ⟨gb128, 1, none⟩ = some (.slice A0_1 l0_1.length c0_1) := (zq4 BK128.out 1).trans rfl
                            have hcz34_2 : wr.cell? ⟨gb128, 2, none⟩ = some (.slice A0_2 l0_2.length c0_2) := (zq4 BK128.out 2).trans rfl
                            have hcz34_3 : wr.cell? ⟨gb128, 3, none⟩ = some (.slice A0_3 l0_3.length c0_3) := (zq4 BK128.out 3).trans rfl
                            have hcz34_4 : wr.cell? ⟨gb128, 4, none⟩ = some (.slice A0_4 l0_4.length c0_4) := (zq4 BK128.out 4).trans rfl
                            have hfz34_0 := zq5 BK128.out 0
                            have hfz34_1 := zq5 BK128.out 1
                            have hfz34_2 := zq5 BK128.out 2
                            have hfz34_3 := zq5 BK128.out 3
                            have hfz34_4 := zq5 BK128.out 4
                            have p130 : 0 ≤ (x3_2 : Int) := of_decide_eq_true (by first | (with_reducible assumption) | assumption)
                            have q130 : x3_2 < (l0_1.length : Int) := of_decide_eq_true (by first | (with_reducible assumption) | assumption)
                            obtain ⟨ad130, e130, hx130_0⟩ := Kd.at_string HR0_1.out x3_2 p130 q130
                            cases e130
                            replace hx130_0 := (HB.out.cell (World.block_lt_of_cell? w _ hx130_0)).trans hx130_0
                            replace p130 := eq_true p130
                            replace q130 := eq_true q130
                            have p132 : 0 ≤ (x3_2 : Int) := of_decide_eq_true (by first | (with_reducible assumption) | assumption)
                            have q132 : x3_2 < (l0_3.length : Int) := of_decide_eq_true (by first | (with_reducible assumption) | assumption)
                            obtain ⟨ad132, e132, hx132_0⟩ := Kd.at_bool HR0_3.out x3_2 p132 q132
                            (try rw [← Nbq29.out] at hx132_0)
                            cases e132
                            replace hx132_0 := (HB.out.cell (World.block_lt_of_cell? w _ hx132_0)).trans hx132_0
                            replace p132 := eq_true p132
                            replace q132 := eq_true q132
                            go_wp2
                            go_roundg k2
                            case measure => have := HJ1.out; have := HK2.out; omega
                            case rel => exact ⟨(wrap64 (x3_2 + 1)), (by first | rfl | (simp; done) | (simp [*]; done)), H', ⟨by have := HJ1.out; have := HK2.out; omega⟩, ⟨by (with_reducible repeat (first | refine zq6 ?_ _ | refine zq8 ?_ | refine zq7 ?_ _)); exact BK128.out⟩, ⟨by repeat (first | (with_reducible first | exact HB.out | apply zq2 | apply zq1 | apply below_drew1 | refine zq3 ?_ GE128.out) | exact HB.out)⟩⟩
                        · rw [if_neg c31] at H
                          have c31b0 : (a0_0 == 1) = false := beq_eq_false_iff_ne.mpr c31
                          have c31b1 : (a0_0 != 1) = true := bne_iff_ne.mpr c31
                          have H' := Az.mk H
                          clear H
                          have hcz35_0 : wr.cell? ⟨gb128, 0, none⟩ = some (.int .i64 a0_0) := (zq4 BK128.out 0).trans rfl
                          have hcz35_1 : wr.cell? ⟨gb128, 1, none⟩ = some (.slice A0_1 l0_1.length c0_1) := (zq4 BK128.out 1).trans rfl
                          have hcz35_2 : wr.cell? ⟨gb128, 2, none⟩ = some (.slice A0_2 l0_2.length c0_2) := (zq4 BK128.out 2).trans rfl
                          have hcz35_3 : wr.cell? ⟨gb128, 3, none⟩ = some (.slice A0_3 l0_3.length c0_3) := (zq4 BK128.out 3).trans rfl
                          have hcz35_4 : wr.cell? ⟨gb128, 4, none⟩ = some (.slice A0_4 l0_4.length c0_4) := (zq4 BK128.out 4).trans rfl
                          have hfz35_0 := zq5 BK128.out 0
                          have hfz35_1 := zq5 BK128.out 1
                          have hfz35_2 := zq5 BK128.out 2
                          have hfz35_3 := zq5 BK128.out 3
                          have hfz35_4 := zq5 BK128.out 4
                          have p130 : 0 ≤ (x3_2 : Int) := of_decide_eq_true (by first | (with_reducible assumption) | assumption)
                          have q130 : x3_2 < (l0_1.length : Int) := of_decide_eq_true (by first | (with_reducible assumption) | assumption)
                          obtain ⟨ad130, e130, hx130_0⟩ := Kd.at_string HR0_1.out x3_2 p130 q130
                          cases e130
                          replace hx130_0 := (HB.out.cell (World.block_lt_of_cell? w _ hx130_0)).trans hx130_0
                          replace p130 := eq_true p130
                          replace q130 := eq_true q130
                          have p132 : 0 ≤ (x3_2 : Int) := of_decide_eq_true (by first | (with_reducible assumption) | assumption)
                          have q132 : x3_2 < (l0_3.length : Int) := of_decide_eq_true (by first | (with_reducible assumption) | assumption)
                          obtain ⟨ad132, e132, hx132_0⟩ := Kd.at_bool HR0_3.out x3_2 p132 q132
                          (try rw [← Nbq29.out] at hx132_0)
                          cases e132
                          replace hx132_0 := (HB.out.cell (World.block_lt_of_cell? w _ hx132_0)).trans hx132_0
                          replace p132 := eq_true p132
                          replace q132 := eq_true q132
                          go_wp2
                          go_roundg k2
                          case measure => have := HJ1.out; have := HK2.out; omega
                          case rel => exact ⟨(wrap64 (x3_2 + 1)), (by first | rfl | (simp; done) | (simp [*]; done)), H', ⟨by have := HJ1.out; have := HK2.out; omega⟩, ⟨by (with_reducible repeat (first | refine zq6 ?_ _ | refine zq8 ?_ | refine zq7 ?_ _)); exact BK128.out⟩, ⟨by repeat (first | (with_reducible first | exact HB.out | apply zq2 | apply zq1 | apply below_drew1 | refine zq3 ?_ GE128.out) | exact HB.out)⟩⟩
                      · replace c30 := Bool.eq_false_iff.mpr c30
                        subst c30
                        have H1 : (if a0_0 = 1 then (if ((rdOf ByteArray.empty l0_1 x3_2).size : Int) > 0 then (some false) else (spec_DiskOk.l0 k2 (wrap64 (x3_2 + 1)) a0_0 l0_1 l0_2 l0_3 l0_4)) else (spec_DiskOk.l0 k2 (wrap64 (x3_2 + 1)) a0_0 l0_1 l0_2 l0_3 l0_4)) = some r := by rw [if_neg (show ¬ (false = true) by decide)] at H; exact H
                        clear H
                        have H := H1
                        clear H1
                        by_cases c36 : a0_0 = 1
                        · rw [if_pos c36] at H
                          have c36b0 : (a0_0 == 1) = true := beq_iff_eq.mpr c36
                          have c36b1 : (a0_0 != 1) = false := bne_eq_false_iff_eq.mpr c36
                          clear c36
                          by_cases c37 : ((rdOf ByteArray.empty l0_1 x3_2).size : Int) > 0
                          · rw [if_pos c37] at H
                            have c37b0 : decide (0 < ((rdOf ByteArray.empty l0_1 x3_2).size : Int)) = true := decide_eq_true c37
                            have c37b1 : decide (0 < (rdOf ByteArray.empty l0_1 x3_2).size) = true := decide_eq_true (by omega)
                            clear c37
                            obtain rfl := Option.some.inj H
                            have hcz38_0 : wr.cell? ⟨gb128, 0, none⟩ = some (.int .i64 a0_0) := (zq4 BK128.out 0).trans rfl
                            have hcz38_1 : wr.cell? ⟨gb128, 1, none⟩ = some (.slice A0_1 l0_1.length c0_1) := (zq4 BK128.out 1).trans rfl
                            have hcz38_2 : wr.cell? ⟨gb128, 2, none⟩ = some (.slice A0_2 l0_2.length c0_2) := (zq4 BK128.out 2).trans rfl
                            have hcz38_3 : wr.cell? ⟨gb128, 3, none⟩ = some (.slice A0_3 l0_3.length c0_3) := (zq4 BK128.out 3).trans rfl
                            have hcz38_4 : wr.cell? ⟨gb128, 4, none⟩ = some (.slice A0_4 l0_4.length c0_4) := (zq4 BK128.out 4).trans rfl
                            have hfz38_0 := zq5 BK128.out 0
                            have hfz38_1 := zq5 BK128.out 1
                            have hfz38_2 := zq5 BK128.out 2
                            have hfz38_3 := zq5 BK128.out 3
                            have hfz38_4 := zq5 BK128.out 4
                            have p130 : 0 ≤ (x3_2 : Int) := of_decide_eq_true (by first | (with_reducible assumption) | assumption)
                            have q130 : x3_2 < (l0_1.length : Int) := of_decide_eq_true (by first | (with_reducible assumption) | assumption)
                            obtain ⟨ad130, e130, hx130_0⟩ := Kd.at_string HR0_1.out x3_2 p130 q130
                            cases e130
                            replace hx130_0 := (HB.out.cell (World.block_lt_of_cell? w _ hx130_0)).trans hx130_0
                            replace p130 := eq_true p130
                            replace q130 := eq_true q130
                            have p132 : 0 ≤ (x3_2 : Int) := of_decide_eq_true (by first | (with_reducible assumption) | assumption)
                            have q132 : x3_2 < (l0_3.length : Int) := of_decide_eq_true (by first | (with_reducible assumption) | assumption)
                            obtain ⟨ad132, e132, hx132_0⟩ := Kd.at_bool HR0_3.out x3_2 p132 q132
                            (try rw [← Nbq29.out] at hx132_0)
                            cases e132
                            replace hx132_0 := (HB.out.cell (World.block_lt_of_cell? w _ hx132_0)).trans hx132_0
                            replace p132 := eq_true p132
                            replace q132 := eq_true q132
                            go_wp2
                            go_ret
                            exact ⟨by first | rfl | (simp [errW_none, errW_some] <;> rfl) | (simp [*, errW_none, errW_some] <;> rfl), by repeat (first | (with_reducible first | exact HB.out | apply zq2 | apply zq1 | apply below_drew1 | refine zq3 ?_ GE128.out) | exact HB.out)⟩
                          · rw [if_neg c37] at H
                            have c37b0 : decide (0 < ((rdOf ByteArray.empty l0_1 x3_2).size : Int)) = false := decide_eq_false c37
                            have c37b1 : decide (0 < (rdOf ByteArray.empty l0_1 x3_2).size) = false := decide_eq_false (by omega)
                            clear c37
                            have H' := Az.mk H
                            clear H
                            have hcz39_0 : wr.cell? ⟨gb128, 0, none⟩ = some (.int .i64 a0_0) := (zq4 BK128.out 0).trans rfl
                            have hcz39_1 : wr.cell? ⟨gb128, 1, none⟩ = some (.slice A0_1 l0_1.length c0_1) := (zq4 BK128.out 1).trans rfl
                            have hcz39_2 : wr.cell? ⟨gb128, 2, none⟩ = some (.slice A0_2 l0_2.length c0_2) := (zq4 BK128.out 2).trans rfl
                            have hcz39_3 : wr.cell? ⟨gb128, 3, none⟩ = some (.slice A0_3 l0_3.length c0_3) := (zq4 BK128.out 3).trans rfl
                            have hcz39_4 : wr.cell? ⟨gb128, 4, none⟩ = some (.slice A0_4 l0_4.length c0_4) := (zq4 BK128.out 4).trans rfl
                            have hfz39_0 := zq5 BK128.out 0
                            have hfz39_1 := zq5 BK128.out 1
                            have hfz39_2 := zq5 BK128.out 2
                            have hfz39_3 := zq5 BK128.out 3
                            have hfz39_4 := zq5 BK128.out 4
                            have p130 : 0 ≤ (x3_2 : Int) := of_decide_eq_true (by first | (with_reducible assumption) | assumption)
                            have q130 : x3_2 < (l0_1.length : Int) := of_decide_eq_true (by first | (with_reducible assumption) | assumption)
                            obtain ⟨ad130, e130, hx130_0⟩ := Kd.at_string HR0_1.out x3_2 p130 q130
                            cases e130
                            replace hx130_0 := (HB.out.cell (World.block_lt_of_cell? w _ hx130_0)).trans hx130_0
                            replace p130 := eq_true p130
                            replace q130 := eq_true q130
                            have p132 : 0 ≤ (x3_2 : Int) := of_decide_eq_true (by first | (with_reducible assumption) | assumption)
                            have q132 : x3_2 < (l0_3.length : Int) := of_decide_eq_true (by first | (with_reducible assumption) | assumption)
                            obtain ⟨ad132, e132, hx132_0⟩ := Kd.at_bool HR0_3.out x3_2 p132 q132
                            (try rw [← Nbq29.out] at hx132_0)
                            cases e132
                            replace hx132_0 := (HB.out.cell (World.block_lt_of_cell? w _ hx132_0)).trans hx132_0
                            replace p132 := eq_true p132
                            replace q132 := eq_true q132
                            go_wp2
                            go_roundg k2
                            case measure => have := HJ1.out; have := HK2.out; omega
                            case rel => exact ⟨(wrap64 (x3_2 + 1)), (by first | rfl | (simp; done) | (simp [*]; done)), H', ⟨by have := HJ1.out; have := HK2.out; omega⟩, ⟨by (with_reducible repeat (first | refine zq6 ?_ _ | refine zq8 ?_ | refine zq7 ?_ _)); exact BK128.out⟩, ⟨by repeat (first | (with_reducible first | exact HB.out | apply zq2 | apply zq1 | apply below_drew1 | refine zq3 ?_ GE128.out) | exact HB.out)⟩⟩
                        · rw [if_neg c36] at H
                          have c36b0 : (a0_0 == 1) = false := beq_eq_false_iff_ne.mpr c36
                          have c36b1 : (a0_0 != 1) = true := bne_iff_ne.mpr c36
                          have H' := Az.mk H
                          clear H
                          have hcz40_0 : wr.cell? ⟨gb128, 0, none⟩ = some (.int .i64 a0_0) := (zq4 BK128.out 0).trans rfl
                          have hcz40_1 : wr.cell? ⟨gb128, 1, none⟩ = some (.slice A0_1 l0_1.length c0_1) := (zq4 BK128.out 1).trans rfl
                          have hcz40_2 : wr.cell? ⟨gb128, 2, none⟩ = some (.slice A0_2 l0_2.length c0_2) := (zq4 BK128.out 2).trans rfl
                          have hcz40_3 : wr.cell? ⟨gb128, 3, none⟩ = some (.slice A0_3 l0_3.length c0_3) := (zq4 BK128.out 3).trans rfl
                          have hcz40_4 : wr.cell? ⟨gb128, 4, none⟩ = some (.slice A0_4 l0_4.length c0_4) := (zq4 BK128.out 4).trans rfl
                          have hfz40_0 := zq5 BK128.out 0
                          have hfz40_1 := zq5 BK128.out 1
                          have hfz40_2 := zq5 BK128.out 2
                          have hfz40_3 := zq5 BK128.out 3
                          have hfz40_4 := zq5 BK128.out 4
                          have p130 : 0 ≤ (x3_2 : Int) := of_decide_eq_true (by first | (with_reducible assumption) | assumption)
                          have q130 : x3_2 < (l0_1.length : Int) := of_decide_eq_true (by first | (with_reducible assumption) | assumption)
                          obtain ⟨ad130, e130, hx130_0⟩ := Kd.at_string HR0_1.out x3_2 p130 q130
                          cases e130
                          replace hx130_0 := (HB.out.cell (World.block_lt_of_cell? w _ hx130_0)).trans hx130_0
                          replace p130 := eq_true p130
                          replace q130 := eq_true q130
                          have p132 : 0 ≤ (x3_2 : Int) := of_decide_eq_true (by first | (with_reducible assumption) | assumption)
                          have q132 : x3_2 < (l0_3.length : Int) := of_decide_eq_true (by first | (with_reducible assumption) | assumption)
                          obtain ⟨ad132, e132, hx132_0⟩ := Kd.at_bool HR0_3.out x3_2 p132 q132
                          (try rw [← Nbq29.out] at hx132_0)
                          cases e132
                          replace hx132_0 := (HB.out.cell (World.block_lt_of_cell? w _ hx132_0)).trans hx132_0
                          replace p132 := eq_true p132
                          replace q132 := eq_true q132
                          go_wp2
                          go_roundg k2
                          case measure => have := HJ1.out; have := HK2.out; omega
                          case rel => exact ⟨(wrap64 (x3_2 + 1)), (by first | rfl | (simp; done) | (simp [*]; done)), H', ⟨by have := HJ1.out; have := HK2.out; omega⟩, ⟨by (with_reducible repeat (first | refine zq6 ?_ _ | refine zq8 ?_ | refine zq7 ?_ _)); exact BK128.out⟩, ⟨by repeat (first | (with_reducible first | exact HB.out | apply zq2 | apply zq1 | apply below_drew1 | refine zq3 ?_ GE128.out) | exact HB.out)⟩⟩
                    · rw [if_neg c28] at H
                      exact absurd H (by simp)
                  · rw [if_neg c27] at H
                    have c27b0 : (((rdOf ByteArray.empty l0_1 x3_2).size : Int) == 3) = false := beq_eq_false_iff_ne.mpr c27
                    have c27b1 : (((rdOf ByteArray.empty l0_1 x3_2).size : Int) != 3) = true := bne_iff_ne.mpr c27
                    obtain rfl := Option.some.inj H
                    have hcz41_0 : wr.cell? ⟨gb128, 0, none⟩ = some (.int .i64 a0_0) := (zq4 BK128.out 0).trans rfl
                    have hcz41_1 : wr.cell? ⟨gb128, 1, none⟩ = some (.slice A0_1 l0_1.length c0_1) := (zq4 BK128.out 1).trans rfl
                    have hcz41_2 : wr.cell? ⟨gb128, 2, none⟩ = some (.slice A0_2 l0_2.length c0_2) := (zq4 BK128.out 2).trans rfl
                    have hcz41_3 : wr.cell? ⟨gb128, 3, none⟩ = some (.slice A0_3 l0_3.length c0_3) := (zq4 BK128.out 3).trans rfl
                    have hcz41_4 : wr.cell? ⟨gb128, 4, none⟩ = some (.slice A0_4 l0_4.length c0_4) := (zq4 BK128.out 4).trans rfl
                    have hfz41_0 := zq5 BK128.out 0
                    have hfz41_1 := zq5 BK128.out 1
                    have hfz41_2 := zq5 BK128.out 2
                    have hfz41_3 := zq5 BK128.out 3
                    have hfz41_4 := zq5 BK128.out 4
                    have p130 : 0 ≤ (x3_2 : Int) := of_decide_eq_true (by first | (with_reducible assumption) | assumption)
                    have q130 : x3_2 < (l0_1.length : Int) := of_decide_eq_true (by first | (with_reducible assumption) | assumption)
                    obtain ⟨ad130, e130, hx130_0⟩ := Kd.at_string HR0_1.out x3_2 p130 q130
                    cases e130
                    replace hx130_0 := (HB.out.cell (World.block_lt_of_cell? w _ hx130_0)).trans hx130_0
                    replace p130 := eq_true p130
                    replace q130 := eq_true q130
                    go_wp2
                    go_ret
                    exact ⟨by first | rfl | (simp [errW_none, errW_some] <;> rfl) | (simp [*, errW_none, errW_some] <;> rfl), by repeat (first | (with_reducible first | exact HB.out | apply zq2 | apply zq1 | apply below_drew1 | refine zq3 ?_ GE128.out) | exact HB.out)⟩
              · rw [if_neg c16] at H
                exact absurd H (by simp)
            · rw [if_neg c15] at H
              have c15b0 : decide (x3_2 < (l0_1.length : Int)) = false := decide_eq_false c15
              clear c15
              have H' := Az.mk H
              clear H
              have hcz42_0 : wr.cell? ⟨gb128, 0, none⟩ = some (.int .i64 a0_0) := (zq4 BK128.out 0).trans rfl
              have hcz42_1 : wr.cell? ⟨gb128, 1, none⟩ = some (.slice A0_1 l0_1.length c0_1) := (zq4 BK128.out 1).trans rfl
              have hcz42_2 : wr.cell? ⟨gb128, 2, none⟩ = some (.slice A0_2 l0_2.length c0_2) := (zq4 BK128.out 2).trans rfl
              have hcz42_3 : wr.cell? ⟨gb128, 3, none⟩ = some (.slice A0_3 l0_3.length c0_3) := (zq4 BK128.out 3).trans rfl
              have hcz42_4 : wr.cell? ⟨gb128, 4, none⟩ = some (.slice A0_4 l0_4.length c0_4) := (zq4 BK128.out 4).trans rfl
              have hfz42_0 := zq5 BK128.out 0
              have hfz42_1 := zq5 BK128.out 1
              have hfz42_2 := zq5 BK128.out 2
              have hfz42_3 := zq5 BK128.out 3
              have hfz42_4 := zq5 BK128.out 4
              go_wp2
              go_loopg [5] k2 (fun kq v5 w' => ∃ (x5_3 : Int), v5 = .int .i64 x5_3 ∧ Az (spec_DiskOk.l1 kq x5_3 a0_0 l0_1 l0_2 l0_3 l0_4 = some r) ∧ Az (kq ≤ k2) ∧ Az (w'.heap[gb128]? = some (.cells #[.int .i64 a0_0, (.slice A0_1 l0_1.length c0_1), (.slice A0_2 l0_2.length c0_2), (.slice A0_3 l0_3.length c0_3), (.slice A0_4 l0_4.length c0_4)] 28 (0, 0))) ∧ Az (Below w.heap.size w w'))
              case atStart => exact ⟨(0), (by first | rfl | (simp; done) | (simp [*]; done)), H', ⟨Nat.le_refl _⟩, ⟨by (with_reducible repeat (first | refine zq6 ?_ _ | refine zq8 ?_ | refine zq7 ?_ _)); exact BK128.out⟩, ⟨by repeat (first | (with_reducible first | exact HB.out | apply zq2 | apply zq1 | apply below_drew1 | refine zq3 ?_ GE128.out) | exact HB.out)⟩⟩
              case round =>
                clear H'
                try clear c1
                try clear p1
                try clear q1
                try clear hx1
                try clear c2
                try clear p2
                try clear q2
                try clear c3
                try clear c5
                try clear c6
                try clear c6b0
                try clear c6b1
                try clear p6
                try clear c7
                try clear c7b0
                try clear c7b1
                try clear c8
                try clear c8b0
                try clear c8b1
                try clear p13
                try clear q13
                try clear hx13
                try clear c14
                try clear c15
                try clear c15b0
                try clear c16
                try clear c16b0
                try clear c17
                try clear c17b0
                try clear c17b1
                try clear c18
                try clear c18b0
                try clear q19
                try clear c20
                try clear c22
                try clear c22b0
                try clear c22b1
                try clear c23
                try clear c23b0
                try clear c23b1
                try clear c27
                try clear c27b0
                try clear c27b1
                try clear c28
                try clear c28b0
                try clear q29
                try clear c30
                try clear c31
                try clear c31b0
                try clear c31b1
                try clear c32
                try clear c32b0
                try clear c32b1
                try clear c36
                try clear c36b0
                try clear c36b1
                try clear c37
                try clear c37b0
                try clear c37b1
                try clear hcz10_0
                try clear hcz10_1
                try clear hcz10_2
                try clear hcz10_3
                try clear hcz10_4
                try clear hcz11_0
                try clear hcz11_1
                try clear hcz11_2
                try clear hcz11_3
                try clear hcz11_4
                try clear hcz12_0
                try clear hcz12_1
                try clear hcz12_2
                try clear hcz12_3
                try clear hcz12_4
                try clear hcz13_0
                try clear hcz13_1
                try clear hcz13_2
                try clear hcz13_3
                try clear hcz13_4
                try clear hcz21_0
                try clear hcz21_1
                try clear hcz21_2
                try clear hcz21_3
                try clear hcz21_4
                try clear hcz24_0
                try clear hcz24_1
                try clear hcz24_2
                try clear hcz24_3
                try clear hcz24_4
                try clear hcz25_0
                try clear hcz25_1
                try clear hcz25_2
                try clear hcz25_3
                try clear hcz25_4
                try clear hcz26_0
                try clear hcz26_1
                try clear hcz26_2
                try clear hcz26_3
                try clear hcz26_4
                try clear hcz33_0
                try clear hcz33_1
                try clear hcz33_2
                try clear hcz33_3
                try clear hcz33_4
                try clear hcz34_0
                try clear hcz34_1
                try clear hcz34_2
                try clear hcz34_3
                try clear hcz34_4
                try clear hcz35_0
                try clear hcz35_1
                try clear hcz35_2
                try clear hcz35_3
                try clear hcz35_4
                try clear hcz38_0
                try clear hcz38_1
                try clear hcz38_2
                try clear hcz38_3
                try clear hcz38_4
                try clear hcz39_0
                try clear hcz39_1
                try clear hcz39_2
                try clear hcz39_3
                try clear hcz39_4
                try clear hcz40_0
                try clear hcz40_1
                try clear hcz40_2
                try clear hcz40_3
                try clear hcz40_4
                try clear hcz41_0
                try clear hcz41_1
                try clear hcz41_2
                try clear hcz41_3
                try clear hcz41_4
                try clear hcz42_0
                try clear hcz42_1
                try clear hcz42_2
                try clear hcz42_3
                try clear hcz42_4
                try clear hcz9_0
                try clear hcz9_1
                try clear hcz9_2
                try clear hcz9_3
                try clear hcz9_4
                try clear hfz10_0
                try clear hfz10_1
                try clear hfz10_2
                try clear hfz10_3
                try clear hfz10_4
                try clear hfz11_0
                try clear hfz11_1
                try clear hfz11_2
                try clear hfz11_3
                try clear hfz11_4
                try clear hfz12_0
                try clear hfz12_1
                try clear hfz12_2
                try clear hfz12_3
                try clear hfz12_4
                try clear hfz13_0
                try clear hfz13_1
                try clear hfz13_2
                try clear hfz13_3
                try clear hfz13_4
                try clear hfz21_0
                try clear hfz21_1
                try clear hfz21_2
                try clear hfz21_3
                try clear hfz21_4
                try clear hfz24_0
                try clear hfz24_1
                try clear hfz24_2
                try clear hfz24_3
                try clear hfz24_4
                try clear hfz25_0
                try clear hfz25_1
                try clear hfz25_2
                try clear hfz25_3
                try clear hfz25_4
                try clear hfz26_0
                try clear hfz26_1
                try clear hfz26_2
                try clear hfz26_3
                try clear hfz26_4
                try clear hfz33_0
                try clear hfz33_1
                try clear hfz33_2
                try clear hfz33_3
                try clear hfz33_4
                try clear hfz34_0
                try clear hfz34_1
                try clear hfz34_2
                try clear hfz34_3
                try clear hfz34_4
                try clear hfz35_0
                try clear hfz35_1
                try clear hfz35_2
                try clear hfz35_3
                try clear hfz35_4
                try clear hfz38_0
                try clear hfz38_1
                try clear hfz38_2
                try clear hfz38_3
                try clear hfz38_4
                try clear hfz39_0
                try clear hfz39_1
                try clear hfz39_2
                try clear hfz39_3
                try clear hfz39_4
                try clear hfz40_0
                try clear hfz40_1
                try clear hfz40_2
                try clear hfz40_3
                try clear hfz40_4
                try clear hfz41_0
                try clear hfz41_1
                try clear hfz41_2
                try clear hfz41_3
                try clear hfz41_4
                try clear hfz42_0
                try clear hfz42_1
                try clear hfz42_2
                try clear hfz42_3
                try clear hfz42_4
                try clear hfz9_0
                try clear hfz9_1
                try clear hfz9_2
                try clear hfz9_3
                try clear hfz9_4
                try clear hx130_0
                try clear hx131_0
                try clear hx132_0
                try clear p130
                try clear p131
                try clear p132
                try clear p2
                try clear q130
                try clear q131
                try clear q132
                obtain ⟨x5_3, rfl, HA, HK3, BK128, HB⟩ := hrel
                cases gk with
                | zero => exact absurd HA.out (by simp [spec_DiskOk.l1])
                | succ k3 =>
                  have H := HA.out
                  clear HA
                  simp only [spec_DiskOk.l1] at H
                  by_cases c43 : x5_3 < (l0_2.length : Int)
                  · rw [if_pos c43] at H
                    have c43b0 : decide (x5_3 < (l0_2.length : Int)) = true := decide_eq_true c43
                    clear c43
                    by_cases c44 : 0 ≤ x5_3
                    · rw [if_pos c44] at H
                      have c44b0 : decide (0 ≤ x5_3) = true := decide_eq_true c44
                      clear c44
                      by_cases c45 : ((rdOf ByteArray.empty l0_2 x5_3).size : Int) > 700
                      · rw [if_pos c45] at H
                        have c45b0 : decide (700 < ((rdOf ByteArray.empty l0_2 x5_3).size : Int)) = true := decide_eq_true c45
                        have c45b1 : decide (700 < (rdOf ByteArray.empty l0_2 x5_3).size) = true := decide_eq_true (by omega)
                        clear c45
                        obtain rfl := Option.some.inj H
                        have hcz46_0 : wr.cell? ⟨gb128, 0, none⟩ = some (.int .i64 a0_0) := (zq4 BK128.out 0).trans rfl
                        have hcz46_1 : wr.cell? ⟨gb128, 1, none⟩ = some (.slice A0_1 l0_1.length c0_1) := (zq4 BK128.out 1).trans rfl
                        have hcz46_2 : wr.cell? ⟨gb128, 2, none⟩ = some (.slice A0_2 l0_2.length c0_2) := (zq4 BK128.out 2).trans rfl
                        have hcz46_3 : wr.cell? ⟨gb128, 3, none⟩ = some (.slice A0_3 l0_3.length c0_3) := (zq4 BK128.out 3).trans rfl
                        have hcz46_4 : wr.cell? ⟨gb128, 4, none⟩ = some (.slice A0_4 l0_4.length c0_4) := (zq4 BK128.out 4).trans rfl
                        have hfz46_0 := zq5 BK128.out 0
                        have hfz46_1 := zq5 BK128.out 1
                        have hfz46_2 := zq5 BK128.out 2
                        have hfz46_3 := zq5 BK128.out 3
                        have hfz46_4 := zq5 BK128.out 4
                        have p133 : 0 ≤ (x5_3 : Int) := of_decide_eq_true (by first | (with_reducible assumption) | assumption)
                        have q133 : x5_3 < (l0_2.length : Int) := of_decide_eq_true (by first | (with_reducible assumption) | assumption)
                        obtain ⟨ad133, e133, hx133_0⟩ := Kd.at_string HR0_2.out x5_3 p133 q133
                        cases e133
                        replace hx133_0 := (HB.out.cell (World.block_lt_of_cell? w _ hx133_0)).trans hx133_0
                        replace p133 := eq_true p133
                        replace q133 := eq_true q133
                        go_wp2
                        go_ret
                        exact ⟨by first | rfl | (simp [errW_none, errW_some] <;> rfl) | (simp [*, errW_none, errW_some] <;> rfl), by repeat (first | (with_reducible first | exact HB.out | apply zq2 | apply zq1 | apply below_drew1 | refine zq3 ?_ GE128.out) | exact HB.out)⟩
                      · rw [if_neg c45] at H
                        have c45b0 : decide (700 < ((rdOf ByteArray.empty l0_2 x5_3).size : Int)) = false := decide_eq_false c45
                        have c45b1 : decide (700 < (rdOf ByteArray.empty l0_2 x5_3).size) = false := decide_eq_false (by omega)
                        clear c45
                        by_cases c47 : a0_0 = 1
                        · rw [if_pos c47] at H
                          have c47b0 : (a0_0 == 1) = true := beq_iff_eq.mpr c47
                          have c47b1 : (a0_0 != 1) = false := bne_eq_false_iff_eq.mpr c47
                          clear c47
                          by_cases c48 : ((rdOf ByteArray.empty l0_2 x5_3).size : Int) > 0
                          · rw [if_pos c48] at H
                            have c48b0 : decide (0 < ((rdOf ByteArray.empty l0_2 x5_3).size : Int)) = true := decide_eq_true c48
                            have c48b1 : decide (0 < (rdOf ByteArray.empty l0_2 x5_3).size) = true := decide_eq_true (by omega)
                            clear c48
                            obtain rfl := Option.some.inj H
                            have hcz49_0 : wr.cell? ⟨gb128, 0, none⟩ = some (.int .i64 a0_0) := (zq4 BK128.out 0).trans rfl
                            have hcz49_1 : wr.cell? ⟨gb128, 1, none⟩ = some (.slice A0_1 l0_1.length c0_1) := (zq4 BK128.out 1).trans rfl
                            have hcz49_2 : wr.cell? ⟨gb128, 2, none⟩ = some (.slice A0_2 l0_2.length c0_2) := (zq4 BK128.out 2).trans rfl
                            have hcz49_3 : wr.cell? ⟨gb128, 3, none⟩ = some (.slice A0_3 l0_3.length c0_3) := (zq4 BK128.out 3).trans rfl
                            have hcz49_4 : wr.cell? ⟨gb128, 4, none⟩ = some (.slice A0_4 l0_4.length c0_4) := (zq4 BK128.out 4).trans rfl
                            have hfz49_0 := zq5 BK128.out 0
                            have hfz49_1 := zq5 BK128.out 1
                            have hfz49_2 := zq5 BK128.out 2
                            have hfz49_3 := zq5 BK128.out 3
                            have hfz49_4 := zq5 BK128.out 4
                            have p133 : 0 ≤ (x5_3 : Int) := of_decide_eq_true (by first | (with_reducible assumption) | assumption)
                            have q133 : x5_3 < (l0_2.length : Int) := of_decide_eq_true (by first | (with_reducible assumption) | assumption)
                            obtain ⟨ad133, e133, hx133_0⟩ := Kd.at_string HR0_2.out x5_3 p133 q133
                            cases e133
                            replace hx133_0 := (HB.out.cell (World.block_lt_of_cell? w _ hx133_0)).trans hx133_0
                            replace p133 := eq_true p133
                            replace q133 := eq_true q133
                            have p134 : 0 ≤ (x5_3 : Int) := of_decide_eq_true (by first | (with_reducible assumption) | assumption)
                            have q134 : x5_3 < (l0_2.length : Int) := of_decide_eq_true (by first | (with_reducible assumption) | assumption)
                            obtain ⟨ad134, e134, hx134_0⟩ := Kd.at_string HR0_2.out x5_3 p134 q134
                            obtain rfl : ad133 = ad134 := (by injection e134)
                            replace hx134_0 := (HB.out.cell (World.block_lt_of_cell? w _ hx134_0)).trans hx134_0
                            replace p134 := eq_true p134
                            replace q134 := eq_true q134
                            go_wp2
                            go_ret
                            exact ⟨by first | rfl | (simp [errW_none, errW_some] <;> rfl) | (simp [*, errW_none, errW_some] <;> rfl), by repeat (first | (with_reducible first | exact HB.out | apply zq2 | apply zq1 | apply below_drew1 | refine zq3 ?_ GE128.out) | exact HB.out)⟩
                          · rw [if_neg c48] at H
                            have c48b0 : decide (0 < ((rdOf ByteArray.empty l0_2 x5_3).size : Int)) = false := decide_eq_false c48
                            have c48b1 : decide (0 < (rdOf ByteArray.empty l0_2 x5_3).size) = false := decide_eq_false (by omega)
                            clear c48
                            have H' := Az.mk H
                            clear H
                            have hcz50_0 : wr.cell? ⟨gb128, 0, none⟩ = some (.int .i64 a0_0) := (zq4 BK128.out 0).trans rfl
                            have hcz50_1 : wr.cell? ⟨gb128, 1, none⟩ = some (.slice A0_1 l0_1.length c0_1) := (zq4 BK128.out 1).trans rfl
                            have hcz50_2 : wr.cell? ⟨gb128, 2, none⟩ = some (.slice A0_2 l0_2.length c0_2) := (zq4 BK128.out 2).trans rfl
                            have hcz50_3 : wr.cell? ⟨gb128, 3, none⟩ = some (.slice A0_3 l0_3.length c0_3) := (zq4 BK128.out 3).trans rfl
                            have hcz50_4 : wr.cell? ⟨gb128, 4, none⟩ = some (.slice A0_4 l0_4.length c0_4) := (zq4 BK128.out 4).trans rfl
                            have hfz50_0 := zq5 BK128.out 0
                            have hfz50_1 := zq5 BK128.out 1
                            have hfz50_2 := zq5 BK128.out 2
                            have hfz50_3 := zq5 BK128.out 3
                            have hfz50_4 := zq5 BK128.out 4
                            have p133 : 0 ≤ (x5_3 : Int) := of_decide_eq_true (by first | (with_reducible assumption) | assumption)
                            have q133 : x5_3 < (l0_2.length : Int) := of_decide_eq_true (by first | (with_reducible assumption) | assumption)
                            obtain ⟨ad133, e133, hx133_0⟩ := Kd.at_string HR0_2.out x5_3 p133 q133
                            cases e133
                            replace hx133_0 := (HB.out.cell (World.block_lt_of_cell? w _ hx133_0)).trans hx133_0
                            replace p133 := eq_true p133
                            replace q133 := eq_true q133
                            have p134 : 0 ≤ (x5_3 : Int) := of_decide_eq_true (by first | (with_reducible assumption) | assumption)
                            have q134 : x5_3 < (l0_2.length : Int) := of_decide_eq_true (by first | (with_reducible assumption) | assumption)
                            obtain ⟨ad134, e134, hx134_0⟩ := Kd.at_string HR0_2.out x5_3 p134 q134
                            obtain rfl : ad133 = ad134 := (by injection e134)
                            replace hx134_0 := (HB.out.cell (World.block_lt_of_cell? w _ hx134_0)).trans hx134_0
                            replace p134 := eq_true p134
                            replace q134 := eq_true q134
                            go_wp2
                            go_roundg k3
                            case measure => have := HJ1.out; have := HK2.out; have := HK3.out; omega
                            case rel => exact ⟨(wrap64 (x5_3 + 1)), (by first | rfl | (simp; done) | (simp [*]; done)), H', ⟨by have := HJ1.out; have := HK2.out; have := HK3.out; omega⟩, ⟨by (with_reducible repeat (first | refine zq6 ?_ _ | refine zq8 ?_ | refine zq7 ?_ _)); exact BK128.out⟩, ⟨by repeat (first | (with_reducible first | exact HB.out | apply zq2 | apply zq1 | apply below_drew1 | refine zq3 ?_ GE128.out) | exact HB.out)⟩⟩
                        · rw [if_neg c47] at H
                          have c47b0 : (a0_0 == 1) = false := beq_eq_false_iff_ne.mpr c47
                          have c47b1 : (a0_0 != 1) = true := bne_iff_ne.mpr c47
                          have H' := Az.mk H
                          clear H
                          have hcz51_0 : wr.cell? ⟨gb128, 0, none⟩ = some (.int .i64 a0_0) := (zq4 BK128.out 0).trans rfl
                          have hcz51_1 : wr.cell? ⟨gb128, 1, none⟩ = some (.slice A0_1 l0_1.length c0_1) := (zq4 BK128.out 1).trans rfl
                          have hcz51_2 : wr.cell? ⟨gb128, 2, none⟩ = some (.slice A0_2 l0_2.length c0_2) := (zq4 BK128.out 2).trans rfl
                          have hcz51_3 : wr.cell? ⟨gb128, 3, none⟩ = some (.slice A0_3 l0_3.length c0_3) := (zq4 BK128.out 3).trans rfl
                          have hcz51_4 : wr.cell? ⟨gb128, 4, none⟩ = some (.slice A0_4 l0_4.length c0_4) := (zq4 BK128.out 4).trans rfl
                          have hfz51_0 := zq5 BK128.out 0
                          have hfz51_1 := zq5 BK128.out 1
                          have hfz51_2 := zq5 BK128.out 2
                          have hfz51_3 := zq5 BK128.out 3
                          have hfz51_4 := zq5 BK128.out 4
                          have p133 : 0 ≤ (x5_3 : Int) := of_decide_eq_true (by first | (with_reducible assumption) | assumption)
                          have q133 : x5_3 < (l0_2.length : Int) := of_decide_eq_true (by first | (with_reducible assumption) | assumption)
                          obtain ⟨ad133, e133, hx133_0⟩ := Kd.at_string HR0_2.out x5_3 p133 q133
                          cases e133
                          replace hx133_0 := (HB.out.cell (World.block_lt_of_cell? w _ hx133_0)).trans hx133_0
                          replace p133 := eq_true p133
                          replace q133 := eq_true q133
                          go_wp2
                          go_roundg k3
                          case measure => have := HJ1.out; have := HK2.out; have := HK3.out; omega
                          case rel => exact ⟨(wrap64 (x5_3 + 1)), (by first | rfl | (simp; done) | (simp [*]; done)), H', ⟨by have := HJ1.out; have := HK2.out; have := HK3.out; omega⟩, ⟨by (with_reducible repeat (first | refine zq6 ?_ _ | refine zq8 ?_ | refine zq7 ?_ _)); exact BK128.out⟩, ⟨by repeat (first | (with_reducible first | exact HB.out | apply zq2 | apply zq1 | apply below_drew1 | refine zq3 ?_ GE128.out) | exact HB.out)⟩⟩
                    · rw [if_neg c44] at H
                      exact absurd H (by simp)
                  · rw [if_neg c43] at H
                    have c43b0 : decide (x5_3 < (l0_2.length : Int)) = false := decide_eq_false c43
                    clear c43
                    have H' := Az.mk H
                    clear H
                    have hcz52_0 : wr.cell? ⟨gb128, 0, none⟩ = some (.int .i64 a0_0) := (zq4 BK128.out 0).trans rfl
                    have hcz52_1 : wr.cell? ⟨gb128, 1, none⟩ = some (.slice A0_1 l0_1.length c0_1) := (zq4 BK128.out 1).trans rfl
                    have hcz52_2 : wr.cell? ⟨gb128, 2, none⟩ = some (.slice A0_2 l0_2.length c0_2) := (zq4 BK128.out 2).trans rfl
                    have hcz52_3 : wr.cell? ⟨gb128, 3, none⟩ = some (.slice A0_3 l0_3.length c0_3) := (zq4 BK128.out 3).trans rfl
                    have hcz52_4 : wr.cell? ⟨gb128, 4, none⟩ = some (.slice A0_4 l0_4.length c0_4) := (zq4 BK128.out 4).trans rfl
                    have hfz52_0 := zq5 BK128.out 0
                    have hfz52_1 := zq5 BK128.out 1
                    have hfz52_2 := zq5 BK128.out 2
                    have hfz52_3 := zq5 BK128.out 3
                    have hfz52_4 := zq5 BK128.out 4
                    go_wp2
                    go_loopg [6] k3 (fun kq v6 w' => ∃ (x6_4 : Int), v6 = .int .i64 x6_4 ∧ Az (spec_DiskOk.l2 kq x6_4 a0_0 l0_1 l0_2 l0_3 l0_4 = some r) ∧ Az (kq ≤ k3) ∧ Az (w'.heap[gb128]? = some (.cells #[.int .i64 a0_0, (.slice A0_1 l0_1.length c0_1), (.slice A0_2 l0_2.length c0_2), (.slice A0_3 l0_3.length c0_3), (.slice A0_4 l0_4.length c0_4)] 28 (0, 0))) ∧ Az (Below w.heap.size w w'))
                    case atStart => exact ⟨(0), (by first | rfl | (simp; done) | (simp [*]; done)), H', ⟨Nat.le_refl _⟩, ⟨by (with_reducible repeat (first | refine zq6 ?_ _ | refine zq8 ?_ | refine zq7 ?_ _)); exact BK128.out⟩, ⟨by repeat (first | (with_reducible first | exact HB.out | apply zq2 | apply zq1 | apply below_drew1 | refine zq3 ?_ GE128.out) | exact HB.out)⟩⟩
                    case round =>
                      clear H'
                      try clear c1
                      try clear p1
                      try clear q1
                      try clear hx1
                      try clear c2
                      try clear p2
                      try clear q2
                      try clear c3
                      try clear c4
                      try clear c5
                      try clear c6
                      try clear c6b0
                      try clear c6b1
                      try clear p6
                      try clear c7
                      try clear c7b0
                      try clear c7b1
                      try clear c8
                      try clear c8b0
                      try clear c8b1
                      try clear p13
                      try clear q13
                      try clear hx13
                      try clear c14
                      try clear c15
                      try clear c15b0
                      try clear c16
                      try clear c16b0
                      try clear c17
                      try clear c17b0
                      try clear c17b1
                      try clear c18
                      try clear c18b0
                      try clear q19
                      try clear c20
                      try clear c22
                      try clear c22b0
                      try clear c22b1
                      try clear c23
                      try clear c23b0
                      try clear c23b1
                      try clear c27
                      try clear c27b0
                      try clear c27b1
                      try clear c28
                      try clear c28b0
                      try clear q29
                      try clear c30
                      try clear c31
                      try clear c31b0
                      try clear c31b1
                      try clear c32
                      try clear c32b0
                      try clear c32b1
                      try clear c36
                      try clear c36b0
                      try clear c36b1
                      try clear c37
                      try clear c37b0
                      try clear c37b1
                      try clear c43
                      try clear c43b0
                      try clear c44
                      try clear c44b0
                      try clear c45
                      try clear c45b0
                      try clear c45b1
                      try clear c47
                      try clear c47b0
                      try clear c47b1
                      try clear c48
                      try clear c48b0
                      try clear c48b1
                      try clear hcz10_0
                      try clear hcz10_1
                      try clear hcz10_2
                      try clear hcz10_3
                      try clear hcz10_4
                      try clear hcz11_0
                      try clear hcz11_1
                      try clear hcz11_2
                      try clear hcz11_3
                      try clear hcz11_4
                      try clear hcz12_0
                      try clear hcz12_1
                      try clear hcz12_2
                      try clear hcz12_3
                      try clear hcz12_4
                      try clear hcz13_0
                      try clear hcz13_1
                      try clear hcz13_2
                      try clear hcz13_3
                      try clear hcz13_4
                      try clear hcz21_0
                      try clear hcz21_1
                      try clear hcz21_2
                      try clear hcz21_3
                      try clear hcz21_4
                      try clear hcz24_0
                      try clear hcz24_1
                      try clear hcz24_2
                      try clear hcz24_3
                      try clear hcz24_4
                      try clear hcz25_0
                      try clear hcz25_1
                      try clear hcz25_2
                      try clear hcz25_3
                      try clear hcz25_4
                      try clear hcz26_0
                      try clear hcz26_1
                      try clear hcz26_2
                      try clear hcz26_3
                      try clear hcz26_4
                      try clear hcz33_0
                      try clear hcz33_1
                      try clear hcz33_2
                      try clear hcz33_3
                      try clear hcz33_4
                      try clear hcz34_0
                      try clear hcz34_1
                      try clear hcz34_2
                      try clear hcz34_3
                      try clear hcz34_4
                      try clear hcz35_0
                      try clear hcz35_1
                      try clear hcz35_2
                      try clear hcz35_3
                      try clear hcz35_4
                      try clear hcz38_0
                      try clear hcz38_1
                      try clear hcz38_2
                      try clear hcz38_3
                      try clear hcz38_4
                      try clear hcz39_0
                      try clear hcz39_1
                      try clear hcz39_2
                      try clear hcz39_3
                      try clear hcz39_4
                      try clear hcz40_0
                      try clear hcz40_1
                      try clear hcz40_2
                      try clear hcz40_3
                      try clear hcz40_4
                      try clear hcz41_0
                      try clear hcz41_1
                      try clear hcz41_2
                      try clear hcz41_3
                      try clear hcz41_4
                      try clear hcz42_0
                      try clear hcz42_1
                      try clear hcz42_2
                      try clear hcz42_3
                      try clear hcz42_4
                      try clear hcz46_0
                      try clear hcz46_1
                      try clear hcz46_2
                      try clear hcz46_3
                      try clear hcz46_4
                      try clear hcz49_0
                      try clear hcz49_1
                      try clear hcz49_2
                      try clear hcz49_3
                      try clear hcz49_4
                      try clear hcz50_0
                      try clear hcz50_1
                      try clear hcz50_2
                      try clear hcz50_3
                      try clear hcz50_4
                      try clear hcz51_0
                      try clear hcz51_1
                      try clear hcz51_2
                      try clear hcz51_3
                      try clear hcz51_4
                      try clear hcz52_0
                      try clear hcz52_1
                      try clear hcz52_2
                      try clear hcz52_3
                      try clear hcz52_4
                      try clear hcz9_0
                      try clear hcz9_1
                      try clear hcz9_2
                      try clear hcz9_3
                      try clear hcz9_4
                      try clear hfz10_0
                      try clear hfz10_1
                      try clear hfz10_2
                      try clear hfz10_3
                      try clear hfz10_4
                      try clear hfz11_0
                      try clear hfz11_1
                      try clear hfz11_2
                      try clear hfz11_3
                      try clear hfz11_4
                      try clear hfz12_0
                      try clear hfz12_1
                      try clear hfz12_2
                      try clear hfz12_3
                      try clear hfz12_4
                      try clear hfz13_0
                      try clear hfz13_1
                      try clear hfz13_2
                      try clear hfz13_3
                      try clear hfz13_4
                      try clear hfz21_0
                      try clear hfz21_1
                      try clear hfz21_2
                      try clear hfz21_3
                      try clear hfz21_4
                      try clear hfz24_0
                      try clear hfz24_1
                      try clear hfz24_2
                      try clear hfz24_3
                      try clear hfz24_4
                      try clear hfz25_0
                      try clear hfz25_1
                      try clear hfz25_2
                      try clear hfz25_3
                      try clear hfz25_4
                      try clear hfz26_0
                      try clear hfz26_1
                      try clear hfz26_2
                      try clear hfz26_3
                      try clear hfz26_4
                      try clear hfz33_0
                      try clear hfz33_1
                      try clear hfz33_2
                      try clear hfz33_3
                      try clear hfz33_4
                      try clear hfz34_0
                      try clear hfz34_1
                      try clear hfz34_2
                      try clear hfz34_3
                      try clear hfz34_4
                      try clear hfz35_0
                      try clear hfz35_1
                      try clear hfz35_2
                      try clear hfz35_3
                      try clear hfz35_4
                      try clear hfz38_0
                      try clear hfz38_1
                      try clear hfz38_2
                      try clear hfz38_3
                      try clear hfz38_4
                      try clear hfz39_0
                      try clear hfz39_1
                      try clear hfz39_2
                      try clear hfz39_3
                      try clear hfz39_4
                      try clear hfz40_0
                      try clear hfz40_1
                      try clear hfz40_2
                      try clear hfz40_3
                      try clear hfz40_4
                      try clear hfz41_0
                      try clear hfz41_1
                      try clear hfz41_2
                      try clear hfz41_3
                      try clear hfz41_4
                      try clear hfz42_0
                      try clear hfz42_1
                      try clear hfz42_2
                      try clear hfz42_3
                      try clear hfz42_4
                      try clear hfz46_0
                      try clear hfz46_1
                      try clear hfz46_2
                      try clear hfz46_3
                      try clear hfz46_4
                      try clear hfz49_0
                      try clear hfz49_1
                      try clear hfz49_2
                      try clear hfz49_3
                      try clear hfz49_4
                      try clear hfz50_0
                      try clear hfz50_1
                      try clear hfz50_2
                      try clear hfz50_3
                      try clear hfz50_4
                      try clear hfz51_0
                      try clear hfz51_1
                      try clear hfz51_2
                      try clear hfz51_3
                      try clear hfz51_4
                      try clear hfz52_0
                      try clear hfz52_1
                      try clear hfz52_2
                      try clear hfz52_3
                      try clear hfz52_4
                      try clear hfz9_0
                      try clear hfz9_1
                      try clear hfz9_2
                      try clear hfz9_3
                      try clear hfz9_4
                      try clear hx130_0
                      try clear hx131_0
                      try clear hx132_0
                      try clear hx133_0
                      try clear hx134_0
                      try clear p1
                      try clear p13
                      try clear p130
                      try clear p131
                      try clear p132
                      try clear p133
                      try clear p134
                      try clear p2
                      try clear p6
                      try clear q1
                      try clear q13
                      try clear q130
                      try clear q131
                      try clear q132
                      try clear q133
                      try clear q134
                      try clear q19
                      try clear q2
                      try clear q29
                      obtain ⟨x6_4, rfl, HA, HK4, BK128, HB⟩ := hrel
                      cases gk with
                      | zero => exact absurd HA.out (by simp [spec_DiskOk.l2])
                      | succ k4 =>
                        have H := HA.out
                        clear HA
                        simp only [spec_DiskOk.l2] at H
                        by_cases c53 : x6_4 < (l0_4.length : Int)
                        · rw [if_pos c53] at H
                          have c53b0 : decide (x6_4 < (l0_4.length : Int)) = true := decide_eq_true c53
                          clear c53
                          by_cases c54 : 0 ≤ x6_4
                          · rw [if_pos c54] at H
                            have c54b0 : decide (0 ≤ x6_4) = true := decide_eq_true c54
                            clear c54
                            replace H := Option.bind_eq_some_iff.mp H
                            obtain ⟨t136, A550, H⟩ := H
                            replace H : (if t136 = true then (spec_DiskOk.l2 k4 (wrap64 (x6_4 + 1)) a0_0 l0_1 l0_2 l0_3 l0_4) else (some false)) = some r := H
                            have A55 := Az.mk A550
                            clear A550
                            by_cases c56 : t136 = true
                            · subst c56
                              have H1 : (spec_DiskOk.l2 k4 (wrap64 (x6_4 + 1)) a0_0 l0_1 l0_2 l0_3 l0_4) = some r := by rw [if_pos rfl] at H; exact H
                              clear H
                              have H := H1
                              clear H1
                              have H' := Az.mk H
                              clear H
                              have hcz57_0 : wr.cell? ⟨gb128, 0, none⟩ = some (.int .i64 a0_0) := (zq4 BK128.out 0).trans rfl
                              have hcz57_1 : wr.cell? ⟨gb128, 1, none⟩ = some (.slice A0_1 l0_1.length c0_1) := (zq4 BK128.out 1).trans rfl
                              have hcz57_2 : wr.cell? ⟨gb128, 2, none⟩ = some (.slice A0_2 l0_2.length c0_2) := (zq4 BK128.out 2).trans rfl
                              have hcz57_3 : wr.cell? ⟨gb128, 3, none⟩ = some (.slice A0_3 l0_3.length c0_3) := (zq4 BK128.out 3).trans rfl
                              have hcz57_4 : wr.cell? ⟨gb128, 4, none⟩ = some (.slice A0_4 l0_4.length c0_4) := (zq4 BK128.out 4).trans rfl
                              have hfz57_0 := zq5 BK128.out 0
                              have hfz57_1 := zq5 BK128.out 1
                              have hfz57_2 := zq5 BK128.out 2
                              have hfz57_3 := zq5 BK128.out 3
                              have hfz57_4 := zq5 BK128.out 4
                              have p135 : 0 ≤ (x6_4 : Int) := of_decide_eq_true (by first | (with_reducible assumption) | assumption)
                              have q135 : x6_4 < (l0_4.length : Int) := of_decide_eq_true (by first | (with_reducible assumption) | assumption)
                              obtain ⟨ad135, e135, hx135_0, hx135_1, hx135_2⟩ := at_T54 HR0_4.out x6_4 p135 q135
                              cases e135
                              replace hx135_0 := (HB.out.cell (World.block_lt_of_cell? w _ hx135_0)).trans hx135_0
                              replace hx135_1 := (HB.out.cell (World.block_lt_of_cell? w _ hx135_1)).trans hx135_1
                              replace hx135_2 := (HB.out.cell (World.block_lt_of_cell? w _ hx135_2)).trans hx135_2
                              replace p135 := eq_true p135
                              replace q135 := eq_true q135
                              go_wp2_with (first | ((with_reducible refine gate_callee (f := 66) rfl ?_); refine zq9 (some 114) rfl rfl Try.func66 (by kernel_rfl) rfl #[.agg #[.bool ((rd_T54 l0_4 x6_4).f0), .int .i64 ((rd_T54 l0_4 x6_4).f1), .string ((rd_T54 l0_4 x6_4).f2)]] rfl (by (try simp only [List.map_toArray, List.map_cons, List.map_nil]); first | done | rfl | (simp only [List.length_drop, List.length_take]; rfl)) ?_; (with_reducible refine (spec_l3Put.calls ((rd_T54 l0_4 x6_4).f0) ((rd_T54 l0_4 x6_4).f1) ((rd_T54 l0_4 x6_4).f2) true _ A55.out).mono ?_); rintro e w58 ⟨rfl, hb⟩; refine ⟨_, rfl, ?_⟩; have n0_ := Az.mk (blk_below (g := gb128) (o := .cells #[.int .i64 a0_0, .slice A0_1 l0_1.length c0_1, .slice A0_2 l0_2.length c0_2, .slice A0_3 l0_3.length c0_3, .slice (some ad135) l0_4.length c0_4] 28 (0, 0)) (by (with_reducible repeat (first | refine zq6 ?_ _ | refine zq8 ?_ | refine zq7 ?_ _)); exact BK128.out) hb); have n1_ := Az.mk (below_step (by repeat (first | (with_reducible first | exact HB.out | apply zq2 | apply zq1 | apply below_drew1 | refine zq3 ?_ GE128.out) | exact HB.out)) hb); clear BK128; clear HB; have BK128 := n0_; have HB := n1_; clear n0_ n1_; (try clear hb); (try clear hb2); (try clear hk); (try clear hi)))
                              go_roundg k4
                              case measure => have := HJ1.out; have := HK2.out; have := HK3.out; have := HK4.out; omega
                              case rel => exact ⟨(wrap64 (x6_4 + 1)), (by first | rfl | (simp; done) | (simp [*]; done)), H', ⟨by have := HJ1.out; have := HK2.out; have := HK3.out; have := HK4.out; omega⟩, ⟨by (with_reducible repeat (first | refine zq6 ?_ _ | refine zq8 ?_ | refine zq7 ?_ _)); exact BK128.out⟩, ⟨by repeat (first | (with_reducible first | exact HB.out | apply zq2 | apply zq1 | apply below_drew1 | refine zq3 ?_ GE128.out) | exact HB.out)⟩⟩
                            · replace c56 := Bool.eq_false_iff.mpr c56
                              subst c56
                              have H1 : (some false) = some r := by rw [if_neg (show ¬ (false = true) by decide)] at H; exact H
                              clear H
                              have H := H1
                              clear H1
                              obtain rfl := Option.some.inj H
                              have hcz59_0 : wr.cell? ⟨gb128, 0, none⟩ = some (.int .i64 a0_0) := (zq4 BK128.out 0).trans rfl
                              have hcz59_1 : wr.cell? ⟨gb128, 1, none⟩ = some (.slice A0_1 l0_1.length c0_1) := (zq4 BK128.out 1).trans rfl
                              have hcz59_2 : wr.cell? ⟨gb128, 2, none⟩ = some (.slice A0_2 l0_2.length c0_2) := (zq4 BK128.out 2).trans rfl
                              have hcz59_3 : wr.cell? ⟨gb128, 3, none⟩ = some (.slice A0_3 l0_3.length c0_3) := (zq4 BK128.out 3).trans rfl
                              have hcz59_4 : wr.cell? ⟨gb128, 4, none⟩ = some (.slice A0_4 l0_4.length c0_4) := (zq4 BK128.out 4).trans rfl
                              have hfz59_0 := zq5 BK128.out 0
                              have hfz59_1 := zq5 BK128.out 1
                              have hfz59_2 := zq5 BK128.out 2
                              have hfz59_3 := zq5 BK128.out 3
                              have hfz59_4 := zq5 BK128.out 4
                              have p135 : 0 ≤ (x6_4 : Int) := of_decide_eq_true (by first | (with_reducible assumption) | assumption)
                              have q135 : x6_4 < (l0_4.length : Int) := of_decide_eq_true (by first | (with_reducible assumption) | assumption)
                              obtain ⟨ad135, e135, hx135_0, hx135_1, hx135_2⟩ := at_T54 HR0_4.out x6_4 p135 q135
                              cases e135
                              replace hx135_0 := (HB.out.cell (World.block_lt_of_cell? w _ hx135_0)).trans hx135_0
                              replace hx135_1 := (HB.out.cell (World.block_lt_of_cell? w _ hx135_1)).trans hx135_1
                              replace hx135_2 := (HB.out.cell (World.block_lt_of_cell? w _ hx135_2)).trans hx135_2
                              replace p135 := eq_true p135
                              replace q135 := eq_true q135
                              go_wp2_with (first | ((with_reducible refine gate_callee (f := 66) rfl ?_); refine zq9 (some 114) rfl rfl Try.func66 (by kernel_rfl) rfl #[.agg #[.bool ((rd_T54 l0_4 x6_4).f0), .int .i64 ((rd_T54 l0_4 x6_4).f1), .string ((rd_T54 l0_4 x6_4).f2)]] rfl (by (try simp only [List.map_toArray, List.map_cons, List.map_nil]); first | done | rfl | (simp only [List.length_drop, List.length_take]; rfl)) ?_; (with_reducible refine (spec_l3Put.calls ((rd_T54 l0_4 x6_4).f0) ((rd_T54 l0_4 x6_4).f1) ((rd_T54 l0_4 x6_4).f2) false _ A55.out).mono ?_); rintro e w60 ⟨rfl, hb⟩; refine ⟨_, rfl, ?_⟩; have n0_ := Az.mk (blk_below (g := gb128) (o := .cells #[.int .i64 a0_0, .slice A0_1 l0_1.length c0_1, .slice A0_2 l0_2.length c0_2, .slice A0_3 l0_3.length c0_3, .slice (some ad135) l0_4.length c0_4] 28 (0, 0)) (by (with_reducible repeat (first | refine zq6 ?_ _ | refine zq8 ?_ | refine zq7 ?_ _)); exact BK128.out) hb); have n1_ := Az.mk (below_step (by repeat (first | (with_reducible first | exact HB.out | apply zq2 | apply zq1 | apply below_drew1 | refine zq3 ?_ GE128.out) | exact HB.out)) hb); clear BK128; clear HB; have BK128 := n0_; have HB := n1_; clear n0_ n1_; (try clear hb); (try clear hb2); (try clear hk); (try clear hi)))
                              go_ret
                              exact ⟨by first | rfl | (simp [errW_none, errW_some] <;> rfl) | (simp [*, errW_none, errW_some] <;> rfl), by repeat (first | (with_reducible first | exact HB.out | apply zq2 | apply zq1 | apply below_drew1 | refine zq3 ?_ GE128.out) | exact HB.out)⟩
                          · rw [if_neg c54] at H
                            exact absurd H (by simp)
                        · rw [if_neg c53] at H
                          have c53b0 : decide (x6_4 < (l0_4.length : Int)) = false := decide_eq_false c53
                          clear c53
                          by_cases c61 : a0_0 = 1
                          · rw [if_pos c61] at H
                            have c61b0 : (a0_0 == 1) = true := beq_iff_eq.mpr c61
                            have c61b1 : (a0_0 != 1) = false := bne_eq_false_iff_eq.mpr c61
                            clear c61
                            obtain rfl := Option.some.inj H
                            have hcz62_0 : wr.cell? ⟨gb128, 0, none⟩ = some (.int .i64 a0_0) := (zq4 BK128.out 0).trans rfl
                            have hcz62_1 : wr.cell? ⟨gb128, 1, none⟩ = some (.slice A0_1 l0_1.length c0_1) := (zq4 BK128.out 1).trans rfl
                            have hcz62_2 : wr.cell? ⟨gb128, 2, none⟩ = some (.slice A0_2 l0_2.length c0_2) := (zq4 BK128.out 2).trans rfl
                            have hcz62_3 : wr.cell? ⟨gb128, 3, none⟩ = some (.slice A0_3 l0_3.length c0_3) := (zq4 BK128.out 3).trans rfl
                            have hcz62_4 : wr.cell? ⟨gb128, 4, none⟩ = some (.slice A0_4 l0_4.length c0_4) := (zq4 BK128.out 4).trans rfl
                            have hfz62_0 := zq5 BK128.out 0
                            have hfz62_1 := zq5 BK128.out 1
                            have hfz62_2 := zq5 BK128.out 2
                            have hfz62_3 := zq5 BK128.out 3
                            have hfz62_4 := zq5 BK128.out 4
                            go_wp2
                            go_ret
                            exact ⟨by first | rfl | (simp [errW_none, errW_some] <;> rfl) | (simp [*, errW_none, errW_some] <;> rfl), by repeat (first | (with_reducible first | exact HB.out | apply zq2 | apply zq1 | apply below_drew1 | refine zq3 ?_ GE128.out) | exact HB.out)⟩
                          · rw [if_neg c61] at H
                            have c61b0 : (a0_0 == 1) = false := beq_eq_false_iff_ne.mpr c61
                            have c61b1 : (a0_0 != 1) = true := bne_iff_ne.mpr c61
                            obtain rfl := Option.some.inj H
                            have hcz63_0 : wr.cell? ⟨gb128, 0, none⟩ = some (.int .i64 a0_0) := (zq4 BK128.out 0).trans rfl
                            have hcz63_1 : wr.cell? ⟨gb128, 1, none⟩ = some (.slice A0_1 l0_1.length c0_1) := (zq4 BK128.out 1).trans rfl
                            have hcz63_2 : wr.cell? ⟨gb128, 2, none⟩ = some (.slice A0_2 l0_2.length c0_2) := (zq4 BK128.out 2).trans rfl
                            have hcz63_3 : wr.cell? ⟨gb128, 3, none⟩ = some (.slice A0_3 l0_3.length c0_3) := (zq4 BK128.out 3).trans rfl
                            have hcz63_4 : wr.cell? ⟨gb128, 4, none⟩ = some (.slice A0_4 l0_4.length c0_4) := (zq4 BK128.out 4).trans rfl
                            have hfz63_0 := zq5 BK128.out 0
                            have hfz63_1 := zq5 BK128.out 1
                            have hfz63_2 := zq5 BK128.out 2
                            have hfz63_3 := zq5 BK128.out 3
                            have hfz63_4 := zq5 BK128.out 4
                            go_wp2
                            go_ret
                            exact ⟨by first | rfl | (simp [errW_none, errW_some] <;> rfl) | (simp [*, errW_none, errW_some] <;> rfl), by repeat (first | (with_reducible first | exact HB.out | apply zq2 | apply zq1 | apply below_drew1 | refine zq3 ?_ GE128.out) | exact HB.out)⟩
end Go.Proofs.Ytkgpnloghmbmlaa.Print
namespace Go.Proofs.Ytkgpnloghmbmlaa.Pure
open Go.RowKit Go.Proofs.Ytkgpnloghmbmlaa.Print Go.Proofs.YtkgpnloghmbmlaaW.PrintWords
set_option linter.unusedSimpArgs false
theorem l6In_eq (n lo hi : Int) : spec_l6In.f n lo hi = some (decide (lo ≤ n ∧ n ≤ hi)) := by
  unfold spec_l6In.f
  by_cases h : n ≥ lo
  · rw [if_pos h]
    congr 1
    by_cases h2 : n ≤ hi
    · rw [decide_eq_true h2, decide_eq_true ⟨h, h2⟩]
    · rw [decide_eq_false h2, decide_eq_false (fun h3 => h2 h3.2)]
  · rw [if_neg h, decide_eq_false (fun h3 => h h3.1)]
theorem l3Put_eq (x : S54) : spec_l3Put.f x.f0 x.f1 x.f2 = some (putB x) := by
  unfold spec_l3Put.f putB
  by_cases h0 : x.f0 = true
  · rw [if_pos h0, if_pos h0, l6In_eq]
    simp only [Option.bind_some]
    by_cases h1 : 0 ≤ x.f1 ∧ x.f1 ≤ 1
    · rw [if_pos (decide_eq_true h1)]
      congr 1
      rw [Bool.eq_iff_iff, decide_eq_true_iff, decide_eq_true_iff]
      omega
    · rw [decide_eq_false h1, if_neg (by decide), decide_eq_false (by omega)]
  · rw [if_neg h0, if_neg h0, l6In_eq]
    simp only [Option.bind_some]
    by_cases h1 : 0 ≤ x.f1 ∧ x.f1 ≤ 11
    · rw [if_pos (decide_eq_true h1)]
      congr 1
      rw [Bool.eq_iff_iff, decide_eq_true_iff, beq_iff_eq]
      omega
    · rw [decide_eq_false h1, if_neg (by decide), decide_eq_false (by omega)]
theorem from_step {P : Nat → Prop} {n i : Nat} (_ : i < n) (h : P i) : (∀ j, i ≤ j → j < n → P j) ↔ (∀ j, i + 1 ≤ j → j < n → P j) :=
  ⟨fun k j h1 h2 => k j (by omega) h2, fun k j h1 h2 => by
    by_cases e : j = i
    · rw [e]; exact h
    · exact k j (by omega) h2⟩
open Classical in
theorem dl2_ev {st : Int} {l1 l2 : List ByteArray} {l3 : List Bool} {l4 : List S54} (hl : l4.length ≤ 1048576) (d : Nat) : ∀ i : Nat, i + d = l4.length →
    Ev (fun k => spec_DiskOk.l2 k (i : Int) st l1 l2 l3 l4) (decide ((∀ j, i ≤ j → j < l4.length → putB (l4.getD j z54) = true) ∧ (st = 1 → l4.length = 0))) := by
  induction d with
  | zero =>
    intro i hi
    refine Ev.next ?_
    simp only [spec_DiskOk.l2]
    refine Ev.neg (by omega) ?_
    by_cases h : st = 1
    · refine Ev.pos h (Ev.ret ?_)
      rw [Bool.eq_iff_iff, beq_iff_eq, decide_eq_true_iff]
      exact ⟨fun h1 => ⟨fun j _ _ => by omega, fun _ => by omega⟩, fun h1 => by have := h1.2 h; omega⟩
    · refine Ev.neg h (Ev.ret ?_)
      rw [decide_eq_true]
      exact ⟨fun j _ _ => by omega, fun h1 => absurd h1 h⟩
  | succ d ih =>
    intro i hi
    have hih := ih (i + 1) (by omega)
    have e : wrap64 ((i : Int) + 1) = ((i + 1 : Nat) : Int) := by rw [wrap_ok (by omega)]; omega
    refine Ev.next ?_
    simp only [spec_DiskOk.l2, e]
    clear e
    have hp := l3Put_eq (l4.getD i z54)
    rw [show l4.getD i z54 = rd_T54 l4 (i : Int) by simp [rd_T54]] at hp
    refine Ev.pos (by omega) (Ev.pos (by omega) (Ev.take hp ?_))
    by_cases h : putB (rd_T54 l4 (i : Int)) = true
    · refine Ev.pos h ?_
      rw [show rd_T54 l4 (i : Int) = l4.getD i z54 by simp [rd_T54]] at h
      simp only [from_step (P := fun j => putB (l4.getD j z54) = true) (show i < l4.length by omega) h]
      exact hih
    · refine Ev.neg h (Ev.ret ?_)
      rw [decide_eq_false]
      intro h1
      have := h1.1 i (Nat.le_refl _) (by omega)
      rw [show rd_T54 l4 (i : Int) = l4.getD i z54 by simp [rd_T54]] at h
      exact h this
def Tail2 (st : Int) (l4 : List S54) : Prop := (∀ j, 0 ≤ j → j < l4.length → putB (l4.getD j z54) = true) ∧ (st = 1 → l4.length = 0)
open Classical in
theorem dl1_ev {st : Int} {l1 l2 : List ByteArray} {l3 : List Bool} {l4 : List S54} (hl : l4.length ≤ 1048576) (h2 : l2.length ≤ 1048576) (d : Nat) : ∀ i : Nat, i + d = l2.length →
    Ev (fun k => spec_DiskOk.l1 k (i : Int) st l1 l2 l3 l4) (decide ((∀ j, i ≤ j → j < l2.length → (l2.getD j ByteArray.empty).size ≤ 700 ∧ (st = 1 → (l2.getD j ByteArray.empty).size = 0)) ∧ Tail2 st l4)) := by
  induction d with
  | zero =>
    intro i hi
    have hk := dl2_ev (st := st) (l1 := l1) (l2 := l2) (l3 := l3) hl l4.length 0 (Nat.zero_add _)
    refine Ev.next ?_
    simp only [spec_DiskOk.l1]
    refine Ev.neg (by omega) ?_
    rw [show decide ((∀ j, i ≤ j → j < l2.length → (l2.getD j ByteArray.empty).size ≤ 700 ∧ (st = 1 → (l2.getD j ByteArray.empty).size = 0)) ∧ Tail2 st l4) = decide ((∀ j, 0 ≤ j → j < l4.length → putB (l4.getD j z54) = true) ∧ (st = 1 → l4.length = 0)) from by
      rw [Bool.eq_iff_iff, decide_eq_true_iff, decide_eq_true_iff]
      exact ⟨fun h => h.2, fun h => ⟨fun j _ _ => by omega, h⟩⟩]
    exact hk
  | succ d ih =>
    intro i hi
    have hih := ih (i + 1) (by omega)
    have e : wrap64 ((i : Int) + 1) = ((i + 1 : Nat) : Int) := by rw [wrap_ok (by omega)]; omega
    refine Ev.next ?_
    simp only [spec_DiskOk.l1, e, rdOf_n]
    clear e
    refine Ev.pos (by omega) (Ev.pos (by omega) ?_)
    have bad : ∀ h : ¬ ((l2.getD i ByteArray.empty).size ≤ 700 ∧ (st = 1 → (l2.getD i ByteArray.empty).size = 0)), false = decide ((∀ j, i ≤ j → j < l2.length → (l2.getD j ByteArray.empty).size ≤ 700 ∧ (st = 1 → (l2.getD j ByteArray.empty).size = 0)) ∧ Tail2 st l4) := fun h => by
      rw [decide_eq_false]
      exact fun h1 => h (h1.1 i (Nat.le_refl _) (by omega))
    have good : ∀ h : ((l2.getD i ByteArray.empty).size ≤ 700 ∧ (st = 1 → (l2.getD i ByteArray.empty).size = 0)), Ev (fun k => spec_DiskOk.l1 k ((i + 1 : Nat) : Int) st l1 l2 l3 l4) (decide ((∀ j, i ≤ j → j < l2.length → (l2.getD j ByteArray.empty).size ≤ 700 ∧ (st = 1 → (l2.getD j ByteArray.empty).size = 0)) ∧ Tail2 st l4)) := fun h => by
      simp only [from_step (P := fun j => (l2.getD j ByteArray.empty).size ≤ 700 ∧ (st = 1 → (l2.getD j ByteArray.empty).size = 0)) (show i < l2.length by omega) h]
      exact hih
    by_cases c1 : ((l2.getD i ByteArray.empty).size : Int) > 700
    · exact Ev.pos c1 (Ev.ret (bad (fun h => by omega)))
    · refine Ev.neg c1 ?_
      by_cases c2 : st = 1
      · refine Ev.pos c2 ?_
        by_cases c3 : ((l2.getD i ByteArray.empty).size : Int) > 0
        · exact Ev.pos c3 (Ev.ret (bad (fun h => by have := h.2 c2; omega)))
        · exact Ev.neg c3 (good ⟨by omega, fun _ => by omega⟩)
      · exact Ev.neg c2 (good ⟨by omega, fun h => absurd h c2⟩)
def Tail1 (st : Int) (l2 : List ByteArray) (l4 : List S54) : Prop := (∀ j, 0 ≤ j → j < l2.length → (l2.getD j ByteArray.empty).size ≤ 700 ∧ (st = 1 → (l2.getD j ByteArray.empty).size = 0)) ∧ Tail2 st l4
open Classical in
theorem dl0_ev {st : Int} {l1 l2 : List ByteArray} {l3 : List Bool} {l4 : List S54} (hl : l4.length ≤ 1048576) (h2 : l2.length ≤ 1048576) (h1 : l1.length ≤ 1048576) (h3 : l3.length = l1.length) (d : Nat) : ∀ i : Nat, i + d = l1.length →
    Ev (fun k => spec_DiskOk.l0 k (i : Int) st l1 l2 l3 l4) (decide ((∀ j, i ≤ j → j < l1.length → badSlot (l1.getD j ByteArray.empty) (l3.getD j false) = false ∧ (st = 1 → (l1.getD j ByteArray.empty).size = 0)) ∧ Tail1 st l2 l4)) := by
  induction d with
  | zero =>
    intro i hi
    have hk := dl1_ev (st := st) (l1 := l1) (l2 := l2) (l3 := l3) hl h2 l2.length 0 (Nat.zero_add _)
    refine Ev.next ?_
    simp only [spec_DiskOk.l0]
    refine Ev.neg (by omega) ?_
    rw [show decide ((∀ j, i ≤ j → j < l1.length → badSlot (l1.getD j ByteArray.empty) (l3.getD j false) = false ∧ (st = 1 → (l1.getD j ByteArray.empty).size = 0)) ∧ Tail1 st l2 l4) = decide ((∀ j, 0 ≤ j → j < l2.length → (l2.getD j ByteArray.empty).size ≤ 700 ∧ (st = 1 → (l2.getD j ByteArray.empty).size = 0)) ∧ Tail2 st l4) from by
      rw [Bool.eq_iff_iff, decide_eq_true_iff, decide_eq_true_iff]
      exact ⟨fun h => h.2, fun h => ⟨fun j _ _ => by omega, h⟩⟩]
    exact hk
  | succ d ih =>
    intro i hi
    have hih := ih (i + 1) (by omega)
    have e : wrap64 ((i : Int) + 1) = ((i + 1 : Nat) : Int) := by rw [wrap_ok (by omega)]; omega
    refine Ev.next ?_
    simp only [spec_DiskOk.l0, e, rdOf_n]
    clear e
    have bad : ∀ h : ¬ (badSlot (l1.getD i ByteArray.empty) (l3.getD i false) = false ∧ (st = 1 → (l1.getD i ByteArray.empty).size = 0)), false = decide ((∀ j, i ≤ j → j < l1.length → badSlot (l1.getD j ByteArray.empty) (l3.getD j false) = false ∧ (st = 1 → (l1.getD j ByteArray.empty).size = 0)) ∧ Tail1 st l2 l4) := fun h => by
      rw [decide_eq_false]
      exact fun h1 => h (h1.1 i (Nat.le_refl _) (by omega))
    have good : ∀ h : (badSlot (l1.getD i ByteArray.empty) (l3.getD i false) = false ∧ (st = 1 → (l1.getD i ByteArray.empty).size = 0)), Ev (fun k => spec_DiskOk.l0 k ((i + 1 : Nat) : Int) st l1 l2 l3 l4) (decide ((∀ j, i ≤ j → j < l1.length → badSlot (l1.getD j ByteArray.empty) (l3.getD j false) = false ∧ (st = 1 → (l1.getD j ByteArray.empty).size = 0)) ∧ Tail1 st l2 l4)) := fun h => by
      simp only [from_step (P := fun j => badSlot (l1.getD j ByteArray.empty) (l3.getD j false) = false ∧ (st = 1 → (l1.getD j ByteArray.empty).size = 0)) (show i < l1.length by omega) h]
      exact hih
    have fin : ∀ hb : badSlot (l1.getD i ByteArray.empty) (l3.getD i false) = false, Ev (fun k => if st = 1 then (if ((l1.getD i ByteArray.empty).size : Int) > 0 then (some false) else (spec_DiskOk.l0 k ((i + 1 : Nat) : Int) st l1 l2 l3 l4)) else (spec_DiskOk.l0 k ((i + 1 : Nat) : Int) st l1 l2 l3 l4)) (decide ((∀ j, i ≤ j → j < l1.length → badSlot (l1.getD j ByteArray.empty) (l3.getD j false) = false ∧ (st = 1 → (l1.getD j ByteArray.empty).size = 0)) ∧ Tail1 st l2 l4)) := fun hb => by
      by_cases c2 : st = 1
      · refine Ev.pos c2 ?_
        by_cases c3 : ((l1.getD i ByteArray.empty).size : Int) > 0
        · exact Ev.pos c3 (Ev.ret (bad (fun h => by have := h.2 c2; omega)))
        · exact Ev.neg c3 (good ⟨hb, fun _ => by omega⟩)
      · exact Ev.neg c2 (good ⟨hb, fun h => absurd h c2⟩)
    refine Ev.pos (by omega) (Ev.pos (by omega) ?_)
    by_cases c0 : ((l1.getD i ByteArray.empty).size : Int) = 0
    · have c0' : (l1.getD i ByteArray.empty).size = 0 := by omega
      refine Ev.pos c0 (Ev.pos (by omega) ?_)
      by_cases cs : l3.getD i false = true
      · exact Ev.pos cs (Ev.ret (bad (fun h => by have := h.1; unfold badSlot at this; rw [if_pos c0', cs] at this; cases this)))
      · exact Ev.neg cs (fin (by unfold badSlot; rw [if_pos c0']; simpa using cs))
    · have c0' : ¬ (l1.getD i ByteArray.empty).size = 0 := by omega
      refine Ev.neg c0 ?_
      by_cases c3 : ((l1.getD i ByteArray.empty).size : Int) = 3
      · have hb : badSlot (l1.getD i ByteArray.empty) (l3.getD i false) = false := by unfold badSlot; rw [if_neg c0']; exact decide_eq_false (by omega)
        refine Ev.pos c3 (Ev.pos (by omega) ?_)
        by_cases cs : l3.getD i false = true
        · exact Ev.pos cs (fin hb)
        · exact Ev.neg cs (fin hb)
      · exact Ev.neg c3 (Ev.ret (bad (fun h => by have := h.1; unfold badSlot at this; rw [if_neg c0'] at this; have := of_decide_eq_false this; omega)))
theorem all_getD {α : Type} {z : α} {l : List α} {p : α → Bool} : l.all p = true ↔ ∀ j, j < l.length → p (l.getD j z) = true := by
  rw [List.all_eq_true]
  constructor
  · intro h j hj
    exact h _ (getD_mem hj)
  · intro h x hx
    obtain ⟨j, hj, rfl⟩ := List.getElem_of_mem hx
    have := h j hj
    simpa [List.getD, hj] using this
theorem any_false {α : Type} {z : α} {l : List α} {p : α → Bool} : l.any p = false ↔ ∀ j, j < l.length → p (l.getD j z) = false := by
  rw [List.any_eq_false]
  constructor
  · intro h j hj
    simpa using h _ (getD_mem hj)
  · intro h x hx
    obtain ⟨j, hj, rfl⟩ := List.getElem_of_mem hx
    have := h j hj
    simpa [List.getD, hj] using this
open Classical in
theorem specDiskOk_ev (st : Int) (l1 l2 : List ByteArray) (l3 : List Bool) (l4 : List S54) (hl : l4.length ≤ 1048576) : Ev (fun k => spec_DiskOk.f k st l1 l2 l3 l4) (goodB st l1 l2 l3 l4) := by
  unfold spec_DiskOk.f
  have bad : ∀ h : ¬ Shaped st l1 l2 l3 l4, Ev (fun k => spec_DiskOk.j0 k true st l1 l2 l3 l4) (goodB st l1 l2 l3 l4) := by
    intro h
    refine Ev.next ?_
    simp only [spec_DiskOk.j0]
    exact Ev.pos trivial (Ev.ret (decide_eq_false (fun hg : Print.Good st l1 l2 l3 l4 => h hg.sh)).symm)
  refine Ev.take (l6In_eq _ _ _) ?_
  by_cases c0 : 0 ≤ st ∧ st ≤ 2
  · refine Ev.pos (decide_eq_true c0) ?_
    by_cases c1 : (l1.length : Int) = 12
    · refine Ev.pos c1 ?_
      by_cases c2 : (l2.length : Int) = 2
      · refine Ev.pos c2 ?_
        by_cases c3 : (l3.length : Int) = 12
        · refine Ev.pos c3 ?_
          by_cases c4 : (l4.length : Int) > 40
          · rw [decide_eq_true c4]
            exact bad (fun h => by unfold Shaped at h; omega)
          · rw [decide_eq_false c4]
            refine Ev.next ?_
            simp only [spec_DiskOk.j0]
            refine Ev.neg (by decide) ?_
            have hs : Shaped st l1 l2 l3 l4 := by unfold Shaped; omega
            have hk := dl0_ev (st := st) (l1 := l1) (l2 := l2) (l3 := l3) (l4 := l4) hl (by omega) (by omega) (by omega) l1.length 0 (Nat.zero_add _)
            have e : goodB st l1 l2 l3 l4 = true ↔ ((∀ j, 0 ≤ j → j < l1.length → badSlot (l1.getD j ByteArray.empty) (l3.getD j false) = false ∧ (st = 1 → (l1.getD j ByteArray.empty).size = 0)) ∧ Tail1 st l2 l4) := by
              unfold goodB
              rw [decide_eq_true_iff]
              constructor
              · intro hg
                refine ⟨fun j _ hj => ⟨hg.so j (by omega), fun h1 => ?_⟩, fun j _ hj => ⟨?_, fun h1 => ?_⟩, fun j _ hj => ?_, fun h1 => (hg.go h1).2.2⟩
                · simpa using all_getD.1 (hg.go h1).1 j hj
                · have := (any_false (z := ByteArray.empty)).1 hg.ro j hj
                  have := of_decide_eq_false this
                  omega
                · simpa using (all_getD (z := ByteArray.empty)).1 (hg.go h1).2.1 j hj
                · simpa using (any_false (z := z54)).1 hg.wa j hj
              · rintro ⟨h0, h1, h2, h3⟩
                refine ⟨hs, (any_false (z := z54)).2 fun j hj => by simpa using h2 j (Nat.zero_le _) hj, fun i hi => (h0 i (Nat.zero_le _) (by omega)).1, (any_false (z := ByteArray.empty)).2 fun j hj => decide_eq_false (by have := (h1 j (Nat.zero_le _) hj).1; omega), fun e => ⟨(all_getD (z := ByteArray.empty)).2 fun j hj => by simpa using (h0 j (Nat.zero_le _) hj).2 e, (all_getD (z := ByteArray.empty)).2 fun j hj => by simpa using (h1 j (Nat.zero_le _) hj).2 e, h3 e⟩⟩
            have e2 : goodB st l1 l2 l3 l4 = decide ((∀ j, 0 ≤ j → j < l1.length → badSlot (l1.getD j ByteArray.empty) (l3.getD j false) = false ∧ (st = 1 → (l1.getD j ByteArray.empty).size = 0)) ∧ Tail1 st l2 l4) := by
              rw [Bool.eq_iff_iff, decide_eq_true_iff]
              exact e
            rw [e2]
            exact hk
        · exact Ev.neg c3 (bad (fun h => by unfold Shaped at h; omega))
      · exact Ev.neg c2 (bad (fun h => by unfold Shaped at h; omega))
    · exact Ev.neg c1 (bad (fun h => by unfold Shaped at h; omega))
  · exact Ev.neg (by simpa using c0) (bad (fun h => c0 h.1))
end Go.Proofs.Ytkgpnloghmbmlaa.Pure
namespace Go.Proofs.Ytkgpnloghmbmlaa.Print
open Go.RowKit Go.Proofs.YtkgpnloghmbmlaaW.PrintWords Go.Proofs.YtkgpnloghmbmlaaW.PrintLast Go.Proofs.YtkgpnloghmbmlaaW.PrintMore
attribute [local go_sem] max2_int min2_int max_two min_two max_three min_three max_four min_four   -- for this text's walks alone
set_option linter.unusedVariables false
set_option linter.unusedSimpArgs false
end Go.Proofs.Ytkgpnloghmbmlaa.Print
namespace Go.Proofs.Ytkgpnloghmbmlaa.Print
open Go.RowKit Go.Proofs.YtkgpnloghmbmlaaW.PrintWords Go.Proofs.YtkgpnloghmbmlaaW.PrintLast Go.Proofs.YtkgpnloghmbmlaaW.PrintMore
attribute [local go_sem] max2_int min2_int max_two min_two max_three min_three max_four min_four   -- for this text's walks alone
set_option linter.unusedVariables false
set_option linter.unusedSimpArgs false
end Go.Proofs.Ytkgpnloghmbmlaa.Print
namespace Go.Proofs.Ytkgpnloghmbmlaa.Print
open Go.RowKit Go.Proofs.YtkgpnloghmbmlaaW.PrintWords Go.Proofs.YtkgpnloghmbmlaaW.PrintLast Go.Proofs.YtkgpnloghmbmlaaW.PrintMore
attribute [local go_sem] max2_int min2_int max_two min_two max_three min_three max_four min_four   -- for this text's walks alone
set_option linter.unusedVariables false
set_option linter.unusedSimpArgs false
end Go.Proofs.Ytkgpnloghmbmlaa.Print
namespace Go.Proofs.Ytkgpnloghmbmlaa.Print
open Go.RowKit Go.Proofs.YtkgpnloghmbmlaaW.PrintWords Go.Proofs.YtkgpnloghmbmlaaW.PrintLast Go.Proofs.YtkgpnloghmbmlaaW.PrintMore
attribute [local go_sem] max2_int min2_int max_two min_two max_three min_three max_four min_four   -- for this text's walks alone
set_option linter.unusedVariables false
set_option linter.unusedSimpArgs false
end Go.Proofs.Ytkgpnloghmbmlaa.Print
namespace Go.Proofs.Ytkgpnloghmbmlaa.Print
open Go.RowKit Go.Proofs.YtkgpnloghmbmlaaW.PrintWords Go.Proofs.YtkgpnloghmbmlaaW.PrintLast Go.Proofs.YtkgpnloghmbmlaaW.PrintMore
attribute [local go_sem] max2_int min2_int max_two min_two max_three min_three max_four min_four   -- for this text's walks alone
set_option linter.unusedVariables false
set_option linter.unusedSimpArgs false
end Go.Proofs.Ytkgpnloghmbmlaa.Print
namespace Go.Proofs.Ytkgpnloghmbmlaa.Hd
open Go.RowKit Go.Proofs.Ytkgpnloghmbmlaa.Print Go.Proofs.YtkgpnloghmbmlaaW.PrintWords Go.Proofs.Ytkgpnloghmbmlaa.Pure Go.Proofs.Ytkgpnloghmbmlaa.Drv
set_option linter.unusedVariables false
set_option linter.unusedSimpArgs false
def GoodD (D : Dd) : Prop := Print.Good D.st D.l1 D.l2 D.l3 D.l4
instance (D : Dd) : Decidable (GoodD D) := by unfold GoodD; infer_instance
def noD : Dd := ⟨0, [], [], [], []⟩
theorem fits_good {D : Dd} (h : GoodD D) : FitsD D := ⟨by have := h.sh.2.1; omega, by have := h.sh.2.2.1; omega, by have := h.sh.2.2.2.1; omega, by have := h.sh.2.2.2.2; omega⟩
theorem fits_no : FitsD noD := ⟨by simp [noD], by simp [noD], by simp [noD], by simp [noD]⟩
structure Da where
  st : Int
  l1 : List ByteArray
  l2 : List ByteArray
  l3 : List Bool
  l4 : List S65
def cA (M : Mm) (D : Da) : Array Value := #[.int .i64 D.st, .slice M.A1 D.l1.length M.c1, .slice M.A2 D.l2.length M.c2, .slice M.A3 D.l3.length M.c3, .slice M.A4 D.l4.length M.c4]
structure RdA (w : World) (M : Mm) (D : Da) : Prop where
  r1 : Kd.C Kd.string w M.A1 D.l1.length D.l1
  h1 : D.l1.length ≤ M.c1
  r2 : Kd.C Kd.string w M.A2 D.l2.length D.l2
  h2 : D.l2.length ≤ M.c2
  r3 : Kd.C Kd.bool w M.A3 D.l3.length D.l3
  h3 : D.l3.length ≤ M.c3
  r4 : Kd.C k65 w M.A4 D.l4.length D.l4
  h4 : D.l4.length ≤ M.c4
theorem Hd.rdA {w0 w : World} {L : List Part} {M : Mm} {D : Da} (H : Hd w0.heap.size w0 w L) (h : RdA w0 M D) : RdA w M D :=
  ⟨H.C h.r1, h.h1, H.C h.r2, h.h2, H.C h.r3, h.h3, H.C h.r4, h.h4⟩
def toD (D : Da) : Dd := ⟨D.st, D.l1, D.l2, D.l3, pts D.l4⟩
theorem toDisk_call {w : World} {M : Mm} {D : Da} (hf : FitsD (toD D)) (h : RdA w M D) : Calls Try.prog 27 #[.agg (cA M D)] w (Gives (toD D) w) := by
  obtain ⟨K, hK⟩ := toDisk_ev D.st D.l1 D.l2 D.l3 D.l4 ⟨hf.h1, hf.h2, hf.h3, by have := hf.h4; rw [show (toD D).l4 = pts D.l4 from rfl, pts_length] at this; exact this⟩
  exact (laws_toDisk.calls (hr0_1 := h.r1) (hc0_1 := h.h1) (hr0_2 := h.r2) (hc0_2 := h.h2) (hr0_3 := h.r3) (hc0_3 := h.h3) (hr0_4 := h.r4) (hc0_4 := h.h4) (h := hK K (Nat.le_refl _))).mono fun e w' hh => gives_of hh
theorem szDisk_call (D : Da) (n : Int) (hn : 0 ≤ n ∧ n ≤ 1048576) (hw : Take.W39 ⟨D.st, D.l1, D.l2, D.l3, D.l4⟩) : ∃ t : Int, t ≤ 1048576 ∧ (¬ t < 0 → FitsD (toD D)) ∧ ∀ (w : World) (M : Mm), RdA w M D → Calls Try.prog 25 #[.agg (cA M D), .int .i64 n] w fun e w' => e = .returned (.int .i64 t) ∧ Below w.heap.size w w' := by
  obtain ⟨t, h1, ⟨K, hK⟩, h3⟩ := szDisk_ev D.st D.l1 D.l2 D.l3 D.l4 n hn hw
  refine ⟨t, h1, fun ht => ?_, fun w M h => laws_szDisk.calls (hr0_1 := h.r1) (hc0_1 := h.h1) (hr0_2 := h.r2) (hc0_2 := h.h2) (hr0_3 := h.r3) (hc0_3 := h.h3) (hr0_4 := h.r4) (hc0_4 := h.h4) (h := hK K (Nat.le_refl _))⟩
  have hf := h3 ht
  exact ⟨hf.h1, hf.h2, hf.h3, by rw [show (toD D).l4 = pts D.l4 from rfl, pts_length]; exact hf.h4⟩
end Go.Proofs.Ytkgpnloghmbmlaa.Hd
namespace Go.Proofs.Ytkgpnloghmbmlaa.Hd
open Go.RowKit Go.Proofs.Ytkgpnloghmbmlaa.Print Go.Proofs.YtkgpnloghmbmlaaW.PrintWords Go.Proofs.YtkgpnloghmbmlaaW.PrintLast Go.Proofs.YtkgpnloghmbmlaaW.PrintMore Go.Proofs.Ytkgpnloghmbmlaa.Pure
set_option linter.unusedVariables false
set_option linter.unusedSimpArgs false
theorem held_call {w : World} {M : Mm} {D D' : Dd} {m : Nat} (hc : cD M D' = cD M D) (hm : HeldBy D' m) (h : Rd w M D') : Calls Try.prog 24 #[.agg (cD M D), .int .i64 1] w fun e w' => e = .returned (.int .i64 (m : Int)) ∧ Below w.heap.size w w' := by
  rw [← hc]
  exact heldDisk_call hm h
theorem cD_one (M : Mm) (D : Dd) : (cD M D).all (·.oneCell') = true := by simp [cD, Value.oneCell']
theorem sizeE28 : (Try.prog.info? 28).map (·.size) = some 5 := by kernel_rfl
theorem sizeE39 : (Try.prog.info? 39).map (·.size) = some 5 := by kernel_rfl
end Go.Proofs.Ytkgpnloghmbmlaa.Hd
namespace Go.Proofs.Ytkgpnloghmbmlaa.Print
open Go.RowKit Go.Proofs.YtkgpnloghmbmlaaW.PrintWords Go.Proofs.YtkgpnloghmbmlaaW.PrintLast Go.Proofs.YtkgpnloghmbmlaaW.PrintMore Go.Proofs.Ytkgpnloghmbmlaa.Drv Go.Proofs.Ytkgpnloghmbmlaa.Hd
set_option linter.unusedVariables false
set_option linter.unusedSimpArgs false
set_option maxHeartbeats 4000000 in
set_option maxRecDepth 100000 in
theorem changed_spoil (a0_0 : Int) (A0_1 : Option Addr) (c0_1 : Nat) (l0_1 : List ByteArray) (A0_2 : Option Addr) (c0_2 : Nat) (l0_2 : List ByteArray) (A0_3 : Option Addr) (c0_3 : Nat) (l0_3 : List Bool) (A0_4 : Option Addr) (c0_4 : Nat) (l0_4 : List (S54)) (cp cq cr : Value) (w : World) (hr0_1 : Kd.C Kd.string w A0_1 l0_1.length l0_1) (hc0_1 : l0_1.length ≤ c0_1) (hr0_2 : Kd.C Kd.string w A0_2 l0_2.length l0_2) (hc0_2 : l0_2.length ≤ c0_2) (hr0_3 : Kd.C Kd.bool w A0_3 l0_3.length l0_3) (hc0_3 : l0_3.length ≤ c0_3) (hr0_4 : Kd.C k54 w A0_4 l0_4.length l0_4) (hc0_4 : l0_4.length ≤ c0_4) (hg : Good a0_0 l0_1 l0_2 l0_3 l0_4) (sp2 : List Bool) (sl2 rg2 : List ByteArray) (ws2 : List S54) (hlen : ws2.length ≤ 40)
    (hcl : ∀ (W : World), Below w.heap.size w W → ∀ (g : Nat) (ns : List (Nat × Pt)), Drv W g a0_0 l0_3 l0_1 l0_2 ns → ns.map (·.2) = l0_4 → w.heap.size ≤ g → Calls Try.prog 86 #[.pointer (some ⟨g, 0, none⟩), cp, cq, cr] W fun e w' => ∃ ns2, e = .returned (.bool true) ∧ Drv w' g a0_0 sp2 sl2 rg2 ns2 ∧ ns2.map (·.2) = ws2 ∧ Below g W w') :
    Calls Try.prog 76 #[.agg #[.int .i64 a0_0, .slice A0_1 l0_1.length c0_1, .slice A0_2 l0_2.length c0_2, .slice A0_3 l0_3.length c0_3, .slice A0_4 l0_4.length c0_4], .func (.func 86) #[] #[cp, cq, cr]] w fun e w' => ∃ v1_ v2_ v3_ v4_ : Value, e = .returned (.agg #[.int .i64 a0_0, v1_, v2_, v3_, v4_]) ∧ Kd.R Kd.string 9 w' w.heap.size (fun k_ => some k_ ≠ (v2_ : Value).ownBlock) v1_ sl2 ∧ Kd.R Kd.string 9 w' w.heap.size (fun k_ => some k_ ≠ (v1_ : Value).ownBlock) v2_ rg2 ∧ Kd.R Kd.bool 4 w' w.heap.size (fun _ => True) v3_ sp2 ∧ Kd.R k54 54 w' w.heap.size (fun _ => True) v4_ ws2 ∧ Below w.heap.size w w' := by
  have hu28 := Try.underlying28
  have HGD := Az.mk (fun (W : World) (hb : Below w.heap.size w W) => readDisk_good2 a0_0 A0_1 c0_1 l0_1 A0_2 c0_2 l0_2 A0_3 c0_3 l0_3 A0_4 c0_4 l0_4 W (Kd.C_below hr0_1 hb) hc0_1 (Kd.C_below hr0_2 hb) hc0_2 (Kd.C_below hr0_3 hb) hc0_3 (Kd.C_below hr0_4 hb) hc0_4 hg)
  have HCL := Az.mk hcl
  have HLEN := Az.mk hlen
  have HB := Az.mk (Below.refl w.heap.size w)
  clear hr0_1 hc0_1 hr0_2 hc0_2 hr0_3 hc0_3 hr0_4 hc0_4 hg hcl hlen
  go_enter Try.func76, Try.ntmps76
  go_wp2_with (first | ((with_reducible refine zqg (N := 2) rfl ?_); refine zqb ?hg (N := 2) ?hd (cs := #[.int .i64 a0_0, .slice A0_1 l0_1.length c0_1, .slice A0_2 l0_2.length c0_2, .slice A0_3 l0_3.length c0_3, .slice A0_4 l0_4.length c0_4]) (t := 28) ?hr ?_; (case hd => rfl); (case hg => rfl); (case hr => first | (go_simp; done) | (go_simp; rfl)); intro gb hg w1 hbox hb; have n0_ := Az.mk (below_step (by repeat (first | (with_reducible first | exact HB.out | apply zq2 | apply zq1 | apply below_drew1) | exact HB.out)) hb); have BD := Az.mk hbox; clear HB; have HB := n0_; clear n0_ hb hbox hg; have hcd_0 : w1.cell? ⟨gb, 0, none⟩ = some (.int .i64 a0_0) := (zq4 BD.out 0).trans rfl; have hcd_1 : w1.cell? ⟨gb, 1, none⟩ = some (.slice A0_1 l0_1.length c0_1) := (zq4 BD.out 1).trans rfl; have hcd_2 : w1.cell? ⟨gb, 2, none⟩ = some (.slice A0_2 l0_2.length c0_2) := (zq4 BD.out 2).trans rfl; have hcd_3 : w1.cell? ⟨gb, 3, none⟩ = some (.slice A0_3 l0_3.length c0_3) := (zq4 BD.out 3).trans rfl; have hcd_4 : w1.cell? ⟨gb, 4, none⟩ = some (.slice A0_4 l0_4.length c0_4) := (zq4 BD.out 4).trans rfl) | ((with_reducible refine zqg (N := 4) rfl ?_); refine zqb ?hg (N := 4) ?hd (cs := #[.int .i64 0, .slice none 0 0, .slice none 0 0, .slice none 0 0, .slice none 0 0]) (t := 28) ?hr ?_; (case hd => rfl); (case hg => rfl); (case hr => first | (go_simp; done) | (go_simp; rfl)); intro gr hg w2 hbox hb; have n0_ := Az.mk (below_step (by repeat (first | (with_reducible first | exact HB.out | apply zq2 | apply zq1 | apply below_drew1) | exact HB.out)) hb); have BK := Az.mk hbox; have HGR : Az (w.heap.size ≤ gr) := ⟨by rw [hg]; exact (below_size (by repeat (first | (with_reducible first | exact HB.out | apply zq2 | apply zq1 | apply below_drew1) | exact HB.out)))⟩; have nd_ := Az.mk (blk_below (g := gb) (o := .cells #[.int .i64 a0_0, .slice A0_1 l0_1.length c0_1, .slice A0_2 l0_2.length c0_2, .slice A0_3 l0_3.length c0_3, .slice A0_4 l0_4.length c0_4] 28 (0, 0)) (by (with_reducible repeat (first | refine zq6 ?_ _ | refine zq8 ?_ | refine zq7 ?_ _)); exact BD.out) hb); clear HB BD; have HB := n0_; have BD := nd_; clear n0_ nd_ hb hbox hg; have hcd_0 : w2.cell? ⟨gb, 0, none⟩ = some (.int .i64 a0_0) := (zq4 BD.out 0).trans rfl; have hcd_1 : w2.cell? ⟨gb, 1, none⟩ = some (.slice A0_1 l0_1.length c0_1) := (zq4 BD.out 1).trans rfl; have hcd_2 : w2.cell? ⟨gb, 2, none⟩ = some (.slice A0_2 l0_2.length c0_2) := (zq4 BD.out 2).trans rfl; have hcd_3 : w2.cell? ⟨gb, 3, none⟩ = some (.slice A0_3 l0_3.length c0_3) := (zq4 BD.out 3).trans rfl; have hcd_4 : w2.cell? ⟨gb, 4, none⟩ = some (.slice A0_4 l0_4.length c0_4) := (zq4 BD.out 4).trans rfl) | (go_at_call 52; refine (HGD.out _ (by repeat (first | (with_reducible first | exact HB.out | apply zq2 | apply zq1 | apply below_drew1) | exact HB.out))).mono ?_; rintro e w9 ⟨gd, ns, rfl, hgd, hd, hns, hb⟩; have n0_ := Az.mk (below_step (by repeat (first | (with_reducible first | exact HB.out | apply zq2 | apply zq1 | apply below_drew1) | exact HB.out)) hb); have nk_ := Az.mk (blk_below (g := gr) (o := .cells #[.int .i64 0, .slice none 0 0, .slice none 0 0, .slice none 0 0, .slice none 0 0] 28 (0, 0)) (by (with_reducible repeat (first | refine zq6 ?_ _ | refine zq8 ?_ | refine zq7 ?_ _)); exact BK.out) hb); have HRD : Az (gr < gd) := ⟨Nat.lt_of_lt_of_le (blk_lt (by (with_reducible repeat (first | refine zq6 ?_ _ | refine zq8 ?_ | refine zq7 ?_ _)); exact BK.out)) hgd⟩; have HWD : Az (w.heap.size ≤ gd) := ⟨Nat.le_trans (below_size (by repeat (first | (with_reducible first | exact HB.out | apply zq2 | apply zq1 | apply below_drew1) | exact HB.out))) hgd⟩; have HD := Az.mk hd; have HNS := Az.mk hns; clear HB BK; have HB := n0_; have BK := nk_; clear n0_ nk_ hb hd hns hgd) | (go_at_call 86; refine (HCL.out _ (by repeat (first | (with_reducible first | exact HB.out | apply zq2 | apply zq1 | apply below_drew1) | exact HB.out)) gd ns (by (with_reducible repeat (first | refine drv_drewN ?_ _ | refine drv_drew ?_)); exact HD.out) HNS.out HWD.out).mono ?_; rintro e w10 ⟨ns2, rfl, hd, hns2_, hb⟩; have hns := hns2_; clear hns2_; have hwg := HGR.out; have n0_ := Az.mk (Below.trans (by repeat (first | (with_reducible first | exact HB.out | apply zq2 | apply zq1 | apply below_drew1) | exact HB.out)) (hb.mono (by have h1 := HGR.out; have h2 := HRD.out; omega))); have nk_ : Az (w10.heap[gr]? = some (.cells #[.int .i64 0, .slice none 0 0, .slice none 0 0, .slice none 0 0, .slice none 0 0] 28 (0, 0))) := ⟨(hb.block gr HRD.out).trans (by (with_reducible repeat (first | refine zq6 ?_ _ | refine zq8 ?_ | refine zq7 ?_ _)); exact BK.out)⟩; have nd_ := Az.mk hd; have HNS2 := Az.mk hns; clear HB BK HD HNS; have HB := n0_; have BK := nk_; have HD := nd_; clear n0_ nk_ nd_ hd hns hb hwg) | (go_at_call 50; refine (disk_calls gd a0_0 sp2 sl2 rg2 ns2 _ (by (with_reducible repeat (first | refine drv_drewN ?_ _ | refine drv_drew ?_)); exact HD.out) (by have h1 := HLEN.out; have h2 := congrArg List.length HNS2.out; rw [List.length_map] at h2; omega)).mono ?_; rintro e w12 ⟨v1, v2, v3, v4, rfl, ho1, ho2, ho3, ho4, hb⟩; rw [HNS2.out] at ho4; obtain ⟨A1, c1, rfl⟩ := Kd.R_slice ho1; obtain ⟨A2, c2, rfl⟩ := Kd.R_slice ho2; obtain ⟨A3, c3, rfl⟩ := Kd.R_slice ho3; obtain ⟨A4, c4, rfl⟩ := Kd.R_slice ho4; have n0_ := Az.mk (below_step (by repeat (first | (with_reducible first | exact HB.out | apply zq2 | apply zq1 | apply below_drew1) | exact HB.out)) hb); have n1_ := Az.mk (blk_below (g := gr) (o := .cells #[.int .i64 0, .slice none 0 0, .slice none 0 0, .slice none 0 0, .slice none 0 0] 28 (0, 0)) (by (with_reducible repeat (first | refine zq6 ?_ _ | refine zq8 ?_ | refine zq7 ?_ _)); exact BK.out) hb); have HG5 : Az (gr < _) := ⟨blk_lt (by (with_reducible repeat (first | refine zq6 ?_ _ | refine zq8 ?_ | refine zq7 ?_ _)); exact BK.out)⟩; have HS5 : Az (w.heap.size ≤ _) := ⟨below_size (by repeat (first | (with_reducible first | exact HB.out | apply zq2 | apply zq1 | apply below_drew1) | exact HB.out))⟩; have HO1 := Az.mk ho1; have HO2 := Az.mk ho2; have HO3 := Az.mk ho3; have HO4 := Az.mk ho4; clear HB BK; have HB := n0_; have BK := n1_; clear n0_ n1_ ho1 ho2 ho3 ho4 hb; have hcz_0 : w12.cell? ⟨gr, 0, none⟩ = some (.int .i64 0) := (zq4 BK.out 0).trans rfl; have hcz_1 : w12.cell? ⟨gr, 1, none⟩ = some (.slice none 0 0) := (zq4 BK.out 1).trans rfl; have hcz_2 : w12.cell? ⟨gr, 2, none⟩ = some (.slice none 0 0) := (zq4 BK.out 2).trans rfl; have hcz_3 : w12.cell? ⟨gr, 3, none⟩ = some (.slice none 0 0) := (zq4 BK.out 3).trans rfl; have hcz_4 : w12.cell? ⟨gr, 4, none⟩ = some (.slice none 0 0) := (zq4 BK.out 4).trans rfl; have hfz_0 := zq5 BK.out 0; have hfz_1 := zq5 BK.out 1; have hfz_2 := zq5 BK.out 2; have hfz_3 := zq5 BK.out 3; have hfz_4 := zq5 BK.out 4))
  have hset : ∀ {W : World} (h : Below w.heap.size w W) (j : Nat) (u : Value), Below w.heap.size w (W.setCell ⟨gr, j, none⟩ u) := fun h j u => zq3 h HGR.out
  refine bodyPost_ret (results_cell_row rfl _ _ gr 28 #[.int .i64 a0_0, .slice A1 sl2.length c1, .slice A2 rg2.length c2, .slice A3 sp2.length c3, .slice A4 ws2.length c4] (0, 0) _ rfl (by
    refine blk_put (cs := #[.int .i64 a0_0, .slice A1 sl2.length c1, .slice A2 rg2.length c2, .slice A3 sp2.length c3, .slice none 0 0]) ?_ 4 _ rfl
    refine blk_put (cs := #[.int .i64 a0_0, .slice A1 sl2.length c1, .slice A2 rg2.length c2, .slice none 0 0, .slice none 0 0]) ?_ 3 _ rfl
    refine blk_put (cs := #[.int .i64 a0_0, .slice A1 sl2.length c1, .slice none 0 0, .slice none 0 0, .slice none 0 0]) ?_ 2 _ rfl
    refine blk_put (cs := #[.int .i64 a0_0, .slice none 0 0, .slice none 0 0, .slice none 0 0, .slice none 0 0]) ?_ 1 _ rfl
    refine blk_put (cs := #[.int .i64 0, .slice none 0 0, .slice none 0 0, .slice none 0 0, .slice none 0 0]) ?_ 0 _ rfl
    exact BK.out) Try.underlying28 rfl (by kernel_rfl)) rfl ?_
  exact ⟨_, _, _, _, rfl, Kd.R_lower (R_setOwn (R_setOwn (R_setOwn (R_setOwn (R_setOwn HO1.out HG5.out 0 _) HG5.out 1 _) HG5.out 2 _) HG5.out 3 _) HG5.out 4 _) HS5.out,
    Kd.R_lower (R_setOwn (R_setOwn (R_setOwn (R_setOwn (R_setOwn HO2.out HG5.out 0 _) HG5.out 1 _) HG5.out 2 _) HG5.out 3 _) HG5.out 4 _) HS5.out,
    Kd.R_lower (R_setOwn (R_setOwn (R_setOwn (R_setOwn (R_setOwn HO3.out HG5.out 0 _) HG5.out 1 _) HG5.out 2 _) HG5.out 3 _) HG5.out 4 _) HS5.out,
    Kd.R_lower (R_setOwn (R_setOwn (R_setOwn (R_setOwn (R_setOwn HO4.out HG5.out 0 _) HG5.out 1 _) HG5.out 2 _) HG5.out 3 _) HG5.out 4 _) HS5.out,
    hset (hset (hset (hset (hset HB.out 0 _) 1 _) 2 _) 3 _) 4 _⟩
set_option maxHeartbeats 4000000 in
set_option maxRecDepth 100000 in
theorem changed_spoil_no (a0_0 : Int) (A0_1 : Option Addr) (c0_1 : Nat) (l0_1 : List ByteArray) (A0_2 : Option Addr) (c0_2 : Nat) (l0_2 : List ByteArray) (A0_3 : Option Addr) (c0_3 : Nat) (l0_3 : List Bool) (A0_4 : Option Addr) (c0_4 : Nat) (l0_4 : List (S54)) (cp cq cr : Value) (w : World) (hr0_1 : Kd.C Kd.string w A0_1 l0_1.length l0_1) (hc0_1 : l0_1.length ≤ c0_1) (hr0_2 : Kd.C Kd.string w A0_2 l0_2.length l0_2) (hc0_2 : l0_2.length ≤ c0_2) (hr0_3 : Kd.C Kd.bool w A0_3 l0_3.length l0_3) (hc0_3 : l0_3.length ≤ c0_3) (hr0_4 : Kd.C k54 w A0_4 l0_4.length l0_4) (hc0_4 : l0_4.length ≤ c0_4) (hg : Good a0_0 l0_1 l0_2 l0_3 l0_4)
    (hcl : ∀ (W : World), Below w.heap.size w W → ∀ (g : Nat) (ns : List (Nat × Pt)), Drv W g a0_0 l0_3 l0_1 l0_2 ns → ns.map (·.2) = l0_4 → w.heap.size ≤ g → Calls Try.prog 86 #[.pointer (some ⟨g, 0, none⟩), cp, cq, cr] W fun e w' => e = .returned (.bool false) ∧ Below g W w') :
    Calls Try.prog 76 #[.agg #[.int .i64 a0_0, .slice A0_1 l0_1.length c0_1, .slice A0_2 l0_2.length c0_2, .slice A0_3 l0_3.length c0_3, .slice A0_4 l0_4.length c0_4], .func (.func 86) #[] #[cp, cq, cr]] w fun e w' => ∃ v1_ v2_ v3_ v4_ : Value, e = .returned (.agg #[.int .i64 0, v1_, v2_, v3_, v4_]) ∧ Kd.R Kd.string 9 w' w.heap.size (fun k_ => some k_ ≠ (v2_ : Value).ownBlock) v1_ ([] : List ByteArray) ∧ Kd.R Kd.string 9 w' w.heap.size (fun k_ => some k_ ≠ (v1_ : Value).ownBlock) v2_ ([] : List ByteArray) ∧ Kd.R Kd.bool 4 w' w.heap.size (fun _ => True) v3_ ([] : List Bool) ∧ Kd.R k54 54 w' w.heap.size (fun _ => True) v4_ ([] : List S54) ∧ Below w.heap.size w w' := by
  have hu28 := Try.underlying28
  have HGD := Az.mk (fun (W : World) (hb : Below w.heap.size w W) => readDisk_good2 a0_0 A0_1 c0_1 l0_1 A0_2 c0_2 l0_2 A0_3 c0_3 l0_3 A0_4 c0_4 l0_4 W (Kd.C_below hr0_1 hb) hc0_1 (Kd.C_below hr0_2 hb) hc0_2 (Kd.C_below hr0_3 hb) hc0_3 (Kd.C_below hr0_4 hb) hc0_4 hg)
  have HCL := Az.mk hcl
  have HB := Az.mk (Below.refl w.heap.size w)
  clear hr0_1 hc0_1 hr0_2 hc0_2 hr0_3 hc0_3 hr0_4 hc0_4 hg hcl
  go_enter Try.func76, Try.ntmps76
  go_wp2_with (first | ((with_reducible refine zqg (N := 2) rfl ?_); refine zqb ?hg (N := 2) ?hd (cs := #[.int .i64 a0_0, .slice A0_1 l0_1.length c0_1, .slice A0_2 l0_2.length c0_2, .slice A0_3 l0_3.length c0_3, .slice A0_4 l0_4.length c0_4]) (t := 28) ?hr ?_; (case hd => rfl); (case hg => rfl); (case hr => first | (go_simp; done) | (go_simp; rfl)); intro gb hg w1 hbox hb; have n0_ := Az.mk (below_step (by repeat (first | (with_reducible first | exact HB.out | apply zq2 | apply zq1 | apply below_drew1) | exact HB.out)) hb); have BD := Az.mk hbox; clear HB; have HB := n0_; clear n0_ hb hbox hg; have hcd_0 : w1.cell? ⟨gb, 0, none⟩ = some (.int .i64 a0_0) := (zq4 BD.out 0).trans rfl; have hcd_1 : w1.cell? ⟨gb, 1, none⟩ = some (.slice A0_1 l0_1.length c0_1) := (zq4 BD.out 1).trans rfl; have hcd_2 : w1.cell? ⟨gb, 2, none⟩ = some (.slice A0_2 l0_2.length c0_2) := (zq4 BD.out 2).trans rfl; have hcd_3 : w1.cell? ⟨gb, 3, none⟩ = some (.slice A0_3 l0_3.length c0_3) := (zq4 BD.out 3).trans rfl; have hcd_4 : w1.cell? ⟨gb, 4, none⟩ = some (.slice A0_4 l0_4.length c0_4) := (zq4 BD.out 4).trans rfl) | ((with_reducible refine zqg (N := 4) rfl ?_); refine zqb ?hg (N := 4) ?hd (cs := #[.int .i64 0, .slice none 0 0, .slice none 0 0, .slice none 0 0, .slice none 0 0]) (t := 28) ?hr ?_; (case hd => rfl); (case hg => rfl); (case hr => first | (go_simp; done) | (go_simp; rfl)); intro gr hg w2 hbox hb; have n0_ := Az.mk (below_step (by repeat (first | (with_reducible first | exact HB.out | apply zq2 | apply zq1 | apply below_drew1) | exact HB.out)) hb); have BK := Az.mk hbox; have HGR : Az (w.heap.size ≤ gr) := ⟨by rw [hg]; exact (below_size (by repeat (first | (with_reducible first | exact HB.out | apply zq2 | apply zq1 | apply below_drew1) | exact HB.out)))⟩; have nd_ := Az.mk (blk_below (g := gb) (o := .cells #[.int .i64 a0_0, .slice A0_1 l0_1.length c0_1, .slice A0_2 l0_2.length c0_2, .slice A0_3 l0_3.length c0_3, .slice A0_4 l0_4.length c0_4] 28 (0, 0)) (by (with_reducible repeat (first | refine zq6 ?_ _ | refine zq8 ?_ | refine zq7 ?_ _)); exact BD.out) hb); clear HB BD; have HB := n0_; have BD := nd_; clear n0_ nd_ hb hbox hg; have hcd_0 : w2.cell? ⟨gb, 0, none⟩ = some (.int .i64 a0_0) := (zq4 BD.out 0).trans rfl; have hcd_1 : w2.cell? ⟨gb, 1, none⟩ = some (.slice A0_1 l0_1.length c0_1) := (zq4 BD.out 1).trans rfl; have hcd_2 : w2.cell? ⟨gb, 2, none⟩ = some (.slice A0_2 l0_2.length c0_2) := (zq4 BD.out 2).trans rfl; have hcd_3 : w2.cell? ⟨gb, 3, none⟩ = some (.slice A0_3 l0_3.length c0_3) := (zq4 BD.out 3).trans rfl; have hcd_4 : w2.cell? ⟨gb, 4, none⟩ = some (.slice A0_4 l0_4.length c0_4) := (zq4 BD.out 4).trans rfl) | (go_at_call 52; refine (HGD.out _ (by repeat (first | (with_reducible first | exact HB.out | apply zq2 | apply zq1 | apply below_drew1) | exact HB.out))).mono ?_; rintro e w9 ⟨gd, ns, rfl, hgd, hd, hns, hb⟩; have n0_ := Az.mk (below_step (by repeat (first | (with_reducible first | exact HB.out | apply zq2 | apply zq1 | apply below_drew1) | exact HB.out)) hb); have nk_ := Az.mk (blk_below (g := gr) (o := .cells #[.int .i64 0, .slice none 0 0, .slice none 0 0, .slice none 0 0, .slice none 0 0] 28 (0, 0)) (by (with_reducible repeat (first | refine zq6 ?_ _ | refine zq8 ?_ | refine zq7 ?_ _)); exact BK.out) hb); have HRD : Az (gr < gd) := ⟨Nat.lt_of_lt_of_le (blk_lt (by (with_reducible repeat (first | refine zq6 ?_ _ | refine zq8 ?_ | refine zq7 ?_ _)); exact BK.out)) hgd⟩; have HWD : Az (w.heap.size ≤ gd) := ⟨Nat.le_trans (below_size (by repeat (first | (with_reducible first | exact HB.out | apply zq2 | apply zq1 | apply below_drew1) | exact HB.out))) hgd⟩; have HD := Az.mk hd; have HNS := Az.mk hns; clear HB BK; have HB := n0_; have BK := nk_; clear n0_ nk_ hb hd hns hgd) | (go_at_call 86; refine (HCL.out _ (by repeat (first | (with_reducible first | exact HB.out | apply zq2 | apply zq1 | apply below_drew1) | exact HB.out)) gd ns (by (with_reducible repeat (first | refine drv_drewN ?_ _ | refine drv_drew ?_)); exact HD.out) HNS.out HWD.out).mono ?_; rintro e w10 ⟨rfl, hb⟩; have n0_ := Az.mk (Below.trans (by repeat (first | (with_reducible first | exact HB.out | apply zq2 | apply zq1 | apply below_drew1) | exact HB.out)) (hb.mono (by have h1 := HGR.out; have h2 := HRD.out; omega))); have nk_ : Az (w10.heap[gr]? = some (.cells #[.int .i64 0, .slice none 0 0, .slice none 0 0, .slice none 0 0, .slice none 0 0] 28 (0, 0))) := ⟨(hb.block gr HRD.out).trans (by (with_reducible repeat (first | refine zq6 ?_ _ | refine zq8 ?_ | refine zq7 ?_ _)); exact BK.out)⟩; clear HB BK HD HNS; have HB := n0_; have BK := nk_; clear n0_ nk_ hb; have hcz_0 : w10.cell? ⟨gr, 0, none⟩ = some (.int .i64 0) := (zq4 BK.out 0).trans rfl; have hcz_1 : w10.cell? ⟨gr, 1, none⟩ = some (.slice none 0 0) := (zq4 BK.out 1).trans rfl; have hcz_2 : w10.cell? ⟨gr, 2, none⟩ = some (.slice none 0 0) := (zq4 BK.out 2).trans rfl; have hcz_3 : w10.cell? ⟨gr, 3, none⟩ = some (.slice none 0 0) := (zq4 BK.out 3).trans rfl; have hcz_4 : w10.cell? ⟨gr, 4, none⟩ = some (.slice none 0 0) := (zq4 BK.out 4).trans rfl; have hfz_0 := zq5 BK.out 0; have hfz_1 := zq5 BK.out 1; have hfz_2 := zq5 BK.out 2; have hfz_3 := zq5 BK.out 3; have hfz_4 := zq5 BK.out 4))
  have hset : ∀ {W : World} (h : Below w.heap.size w W) (j : Nat) (u : Value), Below w.heap.size w (W.setCell ⟨gr, j, none⟩ u) := fun h j u => zq3 h HGR.out
  refine bodyPost_ret (results_cell_row rfl _ _ gr 28 #[.int .i64 0, .slice none 0 0, .slice none 0 0, .slice none 0 0, .slice none 0 0] (0, 0) _ rfl (by
    refine blk_put (cs := #[.int .i64 0, .slice none 0 0, .slice none 0 0, .slice none 0 0, .slice none 0 0]) ?_ 4 _ rfl
    refine blk_put (cs := #[.int .i64 0, .slice none 0 0, .slice none 0 0, .slice none 0 0, .slice none 0 0]) ?_ 3 _ rfl
    refine blk_put (cs := #[.int .i64 0, .slice none 0 0, .slice none 0 0, .slice none 0 0, .slice none 0 0]) ?_ 2 _ rfl
    refine blk_put (cs := #[.int .i64 0, .slice none 0 0, .slice none 0 0, .slice none 0 0, .slice none 0 0]) ?_ 1 _ rfl
    refine blk_put (cs := #[.int .i64 0, .slice none 0 0, .slice none 0 0, .slice none 0 0, .slice none 0 0]) ?_ 0 _ rfl
    exact BK.out) Try.underlying28 rfl (by kernel_rfl)) rfl ?_
  exact ⟨_, _, _, _, rfl, Kd.R_nil _ _ _ _ _, Kd.R_nil _ _ _ _ _, Kd.R_nil _ _ _ _ _, Kd.R_nil _ _ _ _ _, hset (hset (hset (hset (hset HB.out 0 _) 1 _) 2 _) 3 _) 4 _⟩
set_option maxHeartbeats 8000000 in
set_option maxRecDepth 100000 in
theorem spoilFn_no (g ga gb gc : Nat) (a b c : Int) (w : World) (hca : w.cell? ⟨ga, 0, none⟩ = some (.int .i64 a)) (hcb : w.cell? ⟨gb, 0, none⟩ = some (.int .i64 b)) (hcc : w.cell? ⟨gc, 0, none⟩ = some (.int .i64 c)) (hno : ¬ (0 ≤ a ∧ a < 12 ∧ 0 ≤ b ∧ b < 3 ∧ 1 ≤ c ∧ c ≤ 255)) :
    Calls Try.prog 86 #[.pointer (some ⟨g, 0, none⟩), .pointer (some ⟨ga, 0, none⟩), .pointer (some ⟨gb, 0, none⟩), .pointer (some ⟨gc, 0, none⟩)] w fun e w' => e = .returned (.bool false) ∧ Below g w w' := by
  by_cases t0 : a < 0
  · have l0 := eq_true t0
    clear hno t0
    go_enter Try.func86, Try.ntmps86
    go_wp2
    go_ret
    exact ⟨rfl, Below.refl _ _⟩
  by_cases t1 : 12 ≤ a
  · have l1 := eq_true t1
    have l0 := eq_false t0
    clear hno t0 t1
    go_enter Try.func86, Try.ntmps86
    go_wp2
    go_ret
    exact ⟨rfl, Below.refl _ _⟩
  by_cases t2 : b < 0
  · have l2 := eq_true t2
    have l0 := eq_false t0
    have l1 := eq_false t1
    clear hno t0 t1 t2
    go_enter Try.func86, Try.ntmps86
    go_wp2
    go_ret
    exact ⟨rfl, Below.refl _ _⟩
  by_cases t3 : 3 ≤ b
  · have l3 := eq_true t3
    have l0 := eq_false t0
    have l1 := eq_false t1
    have l2 := eq_false t2
    clear hno t0 t1 t2 t3
    go_enter Try.func86, Try.ntmps86
    go_wp2
    go_ret
    exact ⟨rfl, Below.refl _ _⟩
  by_cases t4 : c < 1
  · have l4 := eq_true t4
    have l0 := eq_false t0
    have l1 := eq_false t1
    have l2 := eq_false t2
    have l3 := eq_false t3
    clear hno t0 t1 t2 t3 t4
    go_enter Try.func86, Try.ntmps86
    go_wp2
    go_ret
    exact ⟨rfl, Below.refl _ _⟩
  by_cases t5 : 255 < c
  · have l5 := eq_true t5
    have l0 := eq_false t0
    have l1 := eq_false t1
    have l2 := eq_false t2
    have l3 := eq_false t3
    have l4 := eq_false t4
    clear hno t0 t1 t2 t3 t4 t5
    go_enter Try.func86, Try.ntmps86
    go_wp2
    go_ret
    exact ⟨rfl, Below.refl _ _⟩
  omega
end Go.Proofs.Ytkgpnloghmbmlaa.Print
namespace Go.Proofs.Ytkgpnloghmbmlaa.Hd
open Go.RowKit Go.Proofs.Ytkgpnloghmbmlaa.Print Go.Proofs.YtkgpnloghmbmlaaW.PrintWords Go.Proofs.YtkgpnloghmbmlaaW.PrintLast Go.Proofs.YtkgpnloghmbmlaaW.PrintMore Go.Proofs.Ytkgpnloghmbmlaa.Pure Go.Proofs.Ytkgpnloghmbmlaa.Drv
set_option linter.unusedVariables false
set_option linter.unusedSimpArgs false
def SpoilOk (a b c : Int) : Prop := 0 ≤ a ∧ a < 12 ∧ 0 ≤ b ∧ b < 3 ∧ 1 ≤ c ∧ c ≤ 255
instance (a b c : Int) : Decidable (SpoilOk a b c) := by unfold SpoilOk; infer_instance
def spoilS (D : Dd) (a b c : Int) : Dd := if GoodD D ∧ SpoilOk a b c then spoilD D a.toNat b.toNat c else noD
theorem slot_good {D : Dd} (h : GoodD D) {a : Nat} (ha : a < 12) : ((D.l1.getD a ByteArray.empty).size = 0 ∧ D.l3.getD a false = false) ∨ (D.l1.getD a ByteArray.empty).size = 3 := by
  have h1 := h.so a ha
  unfold badSlot at h1
  split at h1
  · exact .inl ⟨by assumption, h1⟩
  · exact .inr (by simpa using h1)
theorem empty_of {s : ByteArray} (h : s.size = 0) : s.toList.isEmpty = true := by
  have h1 : s.toList.length = s.size := by simp [ByteArray.toList_eq]
  cases h2 : s.toList with
  | nil => rfl
  | cons _ _ => rw [h2] at h1; simp at h1; omega
theorem nonempty_of {s : ByteArray} (h : s.size ≠ 0) : s.toList.isEmpty = false := by
  have h1 : s.toList.length = s.size := by simp [ByteArray.toList_eq]
  cases h2 : s.toList with
  | nil => rw [h2] at h1; simp at h1; omega
  | cons _ _ => rfl
theorem Own.lower {w : World} {lo lo' hi hi' : Nat} {M : Mm} {D : Dd} (h : Own w lo hi M D) (h1 : lo' ≤ lo) (h2 : hi ≤ hi') : Own w lo' hi' M D :=
  ⟨Kd.R_mono (Kd.R_lower h.o1 h1) fun _ hk => ⟨Nat.lt_of_lt_of_le hk.1 h2, hk.2⟩, Kd.R_mono (Kd.R_lower h.o2 h1) fun _ hk => ⟨Nat.lt_of_lt_of_le hk.1 h2, hk.2⟩, Kd.R_mono (Kd.R_lower h.o3 h1) fun _ hk => Nat.lt_of_lt_of_le hk h2, Kd.R_mono (Kd.R_lower h.o4 h1) fun _ hk => Nat.lt_of_lt_of_le hk h2⟩
theorem Below.cell' {w0 w : World} {A : Addr} {v : Value} (hb : Below w0.heap.size w0 w) (h : w0.cell? A = some v) : w.cell? A = some v := (hb.cell (World.block_lt_of_cell? w0 _ h)).trans h
theorem changedS {w : World} {M : Mm} {D : Dd} (a b c : Int) {g5 g6 g7 : Nat} (h : Rd w M D) (c5 : w.cell? ⟨g5, 0, none⟩ = some (.int .i64 a)) (c6 : w.cell? ⟨g6, 0, none⟩ = some (.int .i64 b)) (c7 : w.cell? ⟨g7, 0, none⟩ = some (.int .i64 c)) :
    Calls Try.prog 76 #[.agg (cD M D), .func (.func 86) #[] #[.pointer (some ⟨g5, 0, none⟩), .pointer (some ⟨g6, 0, none⟩), .pointer (some ⟨g7, 0, none⟩)]] w (Gives (spoilS D a b c) w) := by
  have l5 := World.block_lt_of_cell? w _ c5
  have l6 := World.block_lt_of_cell? w _ c6
  have l7 := World.block_lt_of_cell? w _ c7
  by_cases hg : GoodD D
  · by_cases hs : SpoilOk a b c
    · have e : spoilS D a b c = spoilD D a.toNat b.toNat c := if_pos ⟨hg, hs⟩
      rw [e]
      obtain ⟨h0, h1, h2, h3, h4, h5⟩ := hs
      obtain ⟨a, rfl⟩ := Int.eq_ofNat_of_zero_le h0
      obtain ⟨b, rfl⟩ := Int.eq_ofNat_of_zero_le h2
      simp only [Int.toNat_natCast]
      have hso := slot_good hg (a := a) (by omega)
      by_cases hz : (D.l1.getD a ByteArray.empty).size = 0 ∨ D.l3.getD a false = true
      · have e2 : spoilD D a b c = D := if_pos hz
        rw [e2]
        have hz2 : (D.l1.getD a ByteArray.empty).toList.isEmpty = true ∨ ((D.l1.getD a ByteArray.empty).toList.isEmpty = false ∧ D.l3.getD a false = true) := by
          by_cases h6 : (D.l1.getD a ByteArray.empty).size = 0
          · exact .inl (empty_of h6)
          · exact .inr ⟨nonempty_of h6, hz.resolve_left h6⟩
        refine (changed_spoil D.st M.A1 M.c1 D.l1 M.A2 M.c2 D.l2 M.A3 M.c3 D.l3 M.A4 M.c4 D.l4 _ _ _ w h.r1 h.h1 h.r2 h.h2 h.r3 h.h3 h.r4 h.h4 hg D.l3 D.l1 D.l2 D.l4 hg.sh.2.2.2.2 (fun W hb g ns hD hns hgw => ?_)).mono fun e w' hh => gives_of hh
        refine (spoilFn_same g g5 g6 g7 D.st D.l3 D.l1 D.l2 ns a b c W hD (by omega) (by omega) ⟨h4, h5⟩ (Below.cell' hb c5) (Below.cell' hb c6) (Below.cell' hb c7) hz2).mono fun e w' hh => ⟨ns, hh.1, hh.2.1, hns, hh.2.2⟩
      · have e2 : spoilD D a b c = { D with l1 := D.l1.set a (turned (D.l1.getD a ByteArray.empty) b c), l3 := D.l3.set a true } := if_neg hz
        rw [e2]
        have h6 : ¬ (D.l1.getD a ByteArray.empty).size = 0 := fun hh => hz (.inl hh)
        have h7 : D.l3.getD a false = false := by
          cases hh : D.l3.getD a false with
          | false => rfl
          | true => exact absurd (.inr hh) hz
        refine (changed_spoil D.st M.A1 M.c1 D.l1 M.A2 M.c2 D.l2 M.A3 M.c3 D.l3 M.A4 M.c4 D.l4 _ _ _ w h.r1 h.h1 h.r2 h.h2 h.r3 h.h3 h.r4 h.h4 hg (D.l3.set a true) (D.l1.set a (turned (D.l1.getD a ByteArray.empty) b c)) D.l2 D.l4 hg.sh.2.2.2.2 (fun W hb g ns hD hns hgw => ?_)).mono fun e w' hh => gives_of hh
        refine (spoilFn_main g g5 g6 g7 D.st D.l3 D.l1 D.l2 ns a b c W hD (by omega) (by omega) ⟨h4, h5⟩ (Below.cell' hb c5) (Below.cell' hb c6) (Below.cell' hb c7) (Nat.lt_of_lt_of_le l5 hgw) (Nat.lt_of_lt_of_le l6 hgw) (Nat.lt_of_lt_of_le l7 hgw) (nonempty_of h6) (by have := hso.resolve_left (fun hh => h6 hh.1); omega) h7).mono fun e w' hh => ⟨ns, hh.1, hh.2.1, hns, hh.2.2⟩
    · have e : spoilS D a b c = noD := if_neg fun hh => hs hh.2
      rw [e]
      refine (changed_spoil_no D.st M.A1 M.c1 D.l1 M.A2 M.c2 D.l2 M.A3 M.c3 D.l3 M.A4 M.c4 D.l4 _ _ _ w h.r1 h.h1 h.r2 h.h2 h.r3 h.h3 h.r4 h.h4 hg (fun W hb g ns hD hns hgw => ?_)).mono fun e w' hh => gives_of hh
      exact spoilFn_no g g5 g6 g7 a b c W (Below.cell' hb c5) (Below.cell' hb c6) (Below.cell' hb c7) hs
  · have e : spoilS D a b c = noD := if_neg fun hh => hg hh.1
    rw [e]
    exact (changed_bad D.st M.A1 M.c1 D.l1 M.A2 M.c2 D.l2 M.A3 M.c3 D.l3 M.A4 M.c4 D.l4 _ w h.r1 h.h1 h.r2 h.h2 h.r3 h.h3 h.r4 h.h4 hg).mono fun e w' hh => gives_of hh
set_option maxHeartbeats 8000000 in
set_option maxRecDepth 100000 in
theorem implSpoil_call {w : World} {M : Mm} {D : Dd} (a b c : Int) (h : Rd w M D) : Calls Try.prog 42 #[.agg (cD M D), .int .i64 a, .int .i64 b, .int .i64 c] w (Gives (spoilS D a b c) w) := by
  have hs28 := sizeE28
  have HR := Az.mk h
  have H := Az.mk (Hd.start w)
  have tk0 : True := trivial
  clear h
  go_enter Try.func42, Try.ntmps42
  go_wp2_with (first | ((with_reducible refine zqg (N := 4) rfl ?_); refine H.out.bx rfl ((cD M D)) 28 ?hr ?_; (case hr => first | (go_simp; done) | (go_simp; rfl)); intro g4 w4 H1; clear H; have H := H1; clear H1; (try simp only [Act.put, List.setIfInBounds_toArray, List.set_cons_zero, List.set_cons_succ])) | ((with_reducible refine zqg (N := 5) rfl ?_); refine H.out.bx rfl (#[.int .i64 a]) 3 ?hr ?_; (case hr => first | (go_simp; done) | (go_simp; rfl)); intro g5 w5 H1; clear H; have H := H1; clear H1; (try simp only [Act.put, List.setIfInBounds_toArray, List.set_cons_zero, List.set_cons_succ])) | ((with_reducible refine zqg (N := 6) rfl ?_); refine H.out.bx rfl (#[.int .i64 b]) 3 ?hr ?_; (case hr => first | (go_simp; done) | (go_simp; rfl)); intro g6 w6 H1; clear H; have H := H1; clear H1; (try simp only [Act.put, List.setIfInBounds_toArray, List.set_cons_zero, List.set_cons_succ])) | ((with_reducible refine zqg (N := 7) rfl ?_); refine H.out.bx rfl (#[.int .i64 c]) 3 ?hr ?_; (case hr => first | (go_simp; done) | (go_simp; rfl)); intro g7 w7 H1; clear H; have H := H1; clear H1; (try simp only [Act.put, List.setIfInBounds_toArray, List.set_cons_zero, List.set_cons_succ])) | ((with_reducible refine zqg (N := 8) rfl ?_); refine H.out.bx rfl (#[.int .i64 0, .slice none 0 0, .slice none 0 0, .slice none 0 0, .slice none 0 0]) 28 ?hr ?_; (case hr => first | (go_simp; done) | (go_simp; rfl)); intro g8 w8 H1; clear H; have H := H1; clear H1; (try simp only [Act.put, List.setIfInBounds_toArray, List.set_cons_zero, List.set_cons_succ])) | ((with_reducible refine zqg (N := 9) rfl ?_); refine H.out.ld_row 4 rfl rfl rfl rfl Try.underlying28 rfl hs28 ?_; (try simp only [Act.put, List.setIfInBounds_toArray, List.set_cons_zero, List.set_cons_succ])) | (go_at_call 76; have _tk := tk0; refine (changedS a b c (HR.out.below H.out.bel) (zq4 (H.out.box 3 rfl) 0) (zq4 (H.out.box 2 rfl) 0) (zq4 (H.out.box 1 rfl) 0)).mono ?_; rintro e w11 ⟨M11, rfl, ho, hb⟩; have O11 := Az.mk ho; clear ho; have H1 := Az.mk (H.out.made hb); clear hb; clear H; have H := H1; clear H1; clear tk0 _tk; have tk1 : True := trivial) | ((with_reducible refine gate_store (t := 28) (p := 8) rfl ?_); refine H.out.st_row 1 rfl rfl (x := .tmp 8) (y := .tmp 11) rfl rfl rfl ((cD M11 (spoilS D a b c))) rfl hs28 rfl (cD_one _ _) ?_; intro ws1_3 H1; clear H; have H := H1; clear H1))
  exact bodyPost_ret (results_cell_row rfl _ _ g8 28 _ (0, 0) _ rfl (H.out.box 1 rfl) Try.underlying28 rfl (by kernel_rfl)) rfl ⟨M11, rfl, (H.out.own 0 rfl O11.out).lower (H.out.same_ge 0 rfl) (H.out.same_le 0 rfl), H.out.bel⟩
end Go.Proofs.Ytkgpnloghmbmlaa.Hd
namespace Go.Proofs.Ytkgpnloghmbmlaa.Hd
open Go.RowKit Go.Proofs.Ytkgpnloghmbmlaa.Print Go.Proofs.YtkgpnloghmbmlaaW.PrintWords Go.Proofs.YtkgpnloghmbmlaaW.PrintLast Go.Proofs.YtkgpnloghmbmlaaW.PrintMore Go.Proofs.Ytkgpnloghmbmlaa.Pure Go.Proofs.Ytkgpnloghmbmlaa.Drv
set_option linter.unusedVariables false
set_option linter.unusedSimpArgs false
theorem specOk_call {w : World} {M : Mm} {D : Dd} {r : Bool} (hf : FitsD D) (hr : goodB D.st D.l1 D.l2 D.l3 D.l4 = r) (h : Rd w M D) : Calls Try.prog 26 #[.agg (cD M D)] w fun e w' => e = .returned (.bool r) ∧ Below w.heap.size w w' := by
  subst hr
  obtain ⟨K, hK⟩ := specDiskOk_ev D.st D.l1 D.l2 D.l3 D.l4 hf.h4
  exact spec_DiskOk.calls (hr0_1 := h.r1) (hc0_1 := h.h1) (hr0_2 := h.r2) (hc0_2 := h.h2) (hr0_3 := h.r3) (hc0_3 := h.h3) (hr0_4 := h.r4) (hc0_4 := h.h4) (h := hK K (Nat.le_refl _))
theorem l6In_call {w : World} (n lo hi : Int) (r : Bool) (hr : decide (lo ≤ n ∧ n ≤ hi) = r) : Calls Try.prog 51 #[.int .i64 n, .int .i64 lo, .int .i64 hi] w fun e w' => e = .returned (.bool r) ∧ Below w.heap.size w w' := by
  subst hr
  exact (spec_l6In.calls n lo hi _ w (l6In_eq n lo hi)).mono fun e w' h => by
    first
    | exact h
    | exact ⟨h.1, h.2.below⟩
    | (obtain ⟨h1, h2⟩ := h; subst h2; exact ⟨h1, Below.refl _ _⟩)
def M0 : Mm := ⟨none, 0, none, 0, none, 0, none, 0⟩
theorem own_no (w : World) (lo hi : Nat) : Own w lo hi M0 noD := ⟨Kd.R_nil _ _ _ _ _, Kd.R_nil _ _ _ _ _, Kd.R_nil _ _ _ _ _, Kd.R_nil _ _ _ _ _⟩
structure SpoilIn (D : Dd) (a b : Nat) (c : Int) : Prop where
  a1 : a < D.l1.length
  a3 : a < D.l3.length
  l1 : D.l1.length ≤ 1048576
  l3 : D.l3.length ≤ 1048576
  b : (D.l1.getD a ByteArray.empty).size = 0 ∨ b < (D.l1.getD a ByteArray.empty).size
  s : (D.l1.getD a ByteArray.empty).size ≤ 1099511627776
  c : 0 ≤ c ∧ c ≤ 255
theorem l3Spoil_call {w : World} {lo hi : Nat} {M : Mm} {D : Dd} {a b : Nat} {c : Int} (h : Own w lo hi M D) (hhi : hi ≤ w.heap.size) (hs : SpoilIn D a b c) :
    Calls Try.prog 87 #[.agg (cD M D), .int .i64 (a : Int), .int .i64 (b : Int), .int .i64 c] w fun e w' => e = .returned (.agg (cD M (spoilD D a b c))) ∧ Own w' lo hi M (spoilD D a b c) ∧ Below lo w w' ∧ ∀ k, k < w.heap.size → (k < lo ∨ hi ≤ k) → w'.heap[k]? = w.heap[k]? := by
  by_cases hz : (D.l1.getD a ByteArray.empty).size = 0 ∨ D.l3.getD a false = true
  · have e : spoilD D a b c = D := if_pos hz
    rw [e]
    refine spoil_same h hhi hs.a1 hs.a3 hs.l1 hs.l3 ?_
    by_cases h6 : (D.l1.getD a ByteArray.empty).size = 0
    · exact .inl (empty_of h6)
    · exact .inr ⟨nonempty_of h6, hz.resolve_left h6⟩
  · have e : spoilD D a b c = { D with l1 := D.l1.set a (turned (D.l1.getD a ByteArray.empty) b c), l3 := D.l3.set a true } := if_neg hz
    have h7 : D.l3.getD a false = false := by
      cases hh : D.l3.getD a false with
      | false => rfl
      | true => exact absurd (.inr hh) hz
    rw [e]
    refine (spoil_main h hhi hs.a1 hs.a3 hs.l1 hs.l3 (hs.b.resolve_left fun hh => hz (.inl hh)) hs.s hs.c h7).mono fun e w' hh => ?_
    exact ⟨by rw [cD_set]; exact hh.1, hh.2⟩
set_option maxHeartbeats 8000000 in
set_option maxRecDepth 100000 in
theorem specSpoil_no {w : World} {M : Mm} {D : Dd} (a b c : Int) (hf : FitsD D) (h : Rd w M D) (hno : ¬ (GoodD D ∧ SpoilOk a b c)) : Calls Try.prog 43 #[.agg (cD M D), .int .i64 a, .int .i64 b, .int .i64 c] w (Gives noD w) := by
  have hs28 := sizeE28
  have HF := Az.mk hf
  have HR := Az.mk h
  have H := Az.mk (Hd.start w)
  have tk0 : True := trivial
  have hb0 : goodB D.st D.l1 D.l2 D.l3 D.l4 = true ↔ GoodD D := by simp [goodB, GoodD]
  clear h hf
  cases e0 : goodB D.st D.l1 D.l2 D.l3 D.l4 with
  | false =>
    have HGB := Az.mk e0
    clear hno hb0 e0
    go_enter Try.func43, Try.ntmps43
    go_wp2_with (first | ((with_reducible refine zqg (N := 4) rfl ?_); refine H.out.bx rfl ((cD M D)) 28 ?hr ?_; (case hr => first | (go_simp; done) | (go_simp; rfl)); intro g4 w4 H1; clear H; have H := H1; clear H1; (try simp only [Act.put, List.setIfInBounds_toArray, List.set_cons_zero, List.set_cons_succ])) | ((with_reducible refine zqg (N := 8) rfl ?_); refine H.out.bx rfl (#[.int .i64 0, .slice none 0 0, .slice none 0 0, .slice none 0 0, .slice none 0 0]) 28 ?hr ?_; (case hr => first | (go_simp; done) | (go_simp; rfl)); intro g8 w8 H1; clear H; have H := H1; clear H1; (try simp only [Act.put, List.setIfInBounds_toArray, List.set_cons_zero, List.set_cons_succ])) | ((with_reducible refine zqg (N := 9) rfl ?_); refine H.out.ld_row 1 rfl rfl rfl rfl Try.underlying28 rfl hs28 ?_; (try simp only [Act.put, List.setIfInBounds_toArray, List.set_cons_zero, List.set_cons_succ])) | (go_at_call 26; have _tk := tk0; refine (specOk_call HF.out HGB.out (HR.out.below H.out.bel)).mono ?_; rintro e w10 ⟨rfl, hb⟩; have H1 := Az.mk (H.out.step hb); clear hb; clear H; have H := H1; clear H1; clear tk0 _tk; have tk1 : True := trivial) | (go_at_call 51; have _tk := tk1; refine (l6In_call _ _ _ _ H14.out).mono ?_; rintro e w14 ⟨rfl, hb⟩; have H1 := Az.mk (H.out.step hb); clear hb; clear H; have H := H1; clear H1; clear tk1 _tk; have tk2 : True := trivial) | (go_at_call 51; have _tk := tk2; refine (l6In_call _ _ _ _ H19.out).mono ?_; rintro e w19 ⟨rfl, hb⟩; have H1 := Az.mk (H.out.step hb); clear hb; clear H; have H := H1; clear H1; clear tk2 _tk; have tk3 : True := trivial) | (go_at_call 51; have _tk := tk3; refine (l6In_call _ _ _ _ H24.out).mono ?_; rintro e w24 ⟨rfl, hb⟩; have H1 := Az.mk (H.out.step hb); clear hb; clear H; have H := H1; clear H1; clear tk3 _tk; have tk4 : True := trivial) | ((with_reducible refine gate_store (t := 28) (p := 8) rfl ?_); refine H.out.st_row 0 rfl rfl (x := .tmp 8) (y := .tmp 27) rfl rfl rfl ((#[.int .i64 0, .slice none 0 0, .slice none 0 0, .slice none 0 0, .slice none 0 0])) rfl hs28 rfl (by simp [Value.oneCell']) ?_; intro ws2_1 H1; clear H; have H := H1; clear H1))
    exact bodyPost_ret (results_cell_row rfl _ _ g8 28 _ (0, 0) _ rfl (H.out.box 0 rfl) Try.underlying28 rfl (by kernel_rfl)) rfl ⟨M0, rfl, own_no _ _ _, H.out.bel⟩
  | true =>
    cases e1 : decide (0 ≤ a ∧ a ≤ 11) with
    | false =>
      have H14 := Az.mk e1
      have HGB := Az.mk e0
      clear hno hb0 e0 e1
      go_enter Try.func43, Try.ntmps43
      go_wp2_with (first | ((with_reducible refine zqg (N := 4) rfl ?_); refine H.out.bx rfl ((cD M D)) 28 ?hr ?_; (case hr => first | (go_simp; done) | (go_simp; rfl)); intro g4 w4 H1; clear H; have H := H1; clear H1; (try simp only [Act.put, List.setIfInBounds_toArray, List.set_cons_zero, List.set_cons_succ])) | ((with_reducible refine zqg (N := 8) rfl ?_); refine H.out.bx rfl (#[.int .i64 0, .slice none 0 0, .slice none 0 0, .slice none 0 0, .slice none 0 0]) 28 ?hr ?_; (case hr => first | (go_simp; done) | (go_simp; rfl)); intro g8 w8 H1; clear H; have H := H1; clear H1; (try simp only [Act.put, List.setIfInBounds_toArray, List.set_cons_zero, List.set_cons_succ])) | ((with_reducible refine zqg (N := 9) rfl ?_); refine H.out.ld_row 1 rfl rfl rfl rfl Try.underlying28 rfl hs28 ?_; (try simp only [Act.put, List.setIfInBounds_toArray, List.set_cons_zero, List.set_cons_succ])) | (go_at_call 26; have _tk := tk0; refine (specOk_call HF.out HGB.out (HR.out.below H.out.bel)).mono ?_; rintro e w10 ⟨rfl, hb⟩; have H1 := Az.mk (H.out.step hb); clear hb; clear H; have H := H1; clear H1; clear tk0 _tk; have tk1 : True := trivial) | (go_at_call 51; have _tk := tk1; refine (l6In_call _ _ _ _ H14.out).mono ?_; rintro e w14 ⟨rfl, hb⟩; have H1 := Az.mk (H.out.step hb); clear hb; clear H; have H := H1; clear H1; clear tk1 _tk; have tk2 : True := trivial) | (go_at_call 51; have _tk := tk2; refine (l6In_call _ _ _ _ H19.out).mono ?_; rintro e w19 ⟨rfl, hb⟩; have H1 := Az.mk (H.out.step hb); clear hb; clear H; have H := H1; clear H1; clear tk2 _tk; have tk3 : True := trivial) | (go_at_call 51; have _tk := tk3; refine (l6In_call _ _ _ _ H24.out).mono ?_; rintro e w24 ⟨rfl, hb⟩; have H1 := Az.mk (H.out.step hb); clear hb; clear H; have H := H1; clear H1; clear tk3 _tk; have tk4 : True := trivial) | ((with_reducible refine gate_store (t := 28) (p := 8) rfl ?_); refine H.out.st_row 0 rfl rfl (x := .tmp 8) (y := .tmp 27) rfl rfl rfl ((#[.int .i64 0, .slice none 0 0, .slice none 0 0, .slice none 0 0, .slice none 0 0])) rfl hs28 rfl (by simp [Value.oneCell']) ?_; intro ws2_1 H1; clear H; have H := H1; clear H1))
      exact bodyPost_ret (results_cell_row rfl _ _ g8 28 _ (0, 0) _ rfl (H.out.box 0 rfl) Try.underlying28 rfl (by kernel_rfl)) rfl ⟨M0, rfl, own_no _ _ _, H.out.bel⟩
    | true =>
      cases e2 : decide (0 ≤ b ∧ b ≤ 2) with
      | false =>
        have H19 := Az.mk e2
        have HGB := Az.mk e0
        have H14 := Az.mk e1
        clear hno hb0 e0 e1 e2
        go_enter Try.func43, Try.ntmps43
        go_wp2_with (first | ((with_reducible refine zqg (N := 4) rfl ?_); refine H.out.bx rfl ((cD M D)) 28 ?hr ?_; (case hr => first | (go_simp; done) | (go_simp; rfl)); intro g4 w4 H1; clear H; have H := H1; clear H1; (try simp only [Act.put, List.setIfInBounds_toArray, List.set_cons_zero, List.set_cons_succ])) | ((with_reducible refine zqg (N := 8) rfl ?_); refine H.out.bx rfl (#[.int .i64 0, .slice none 0 0, .slice none 0 0, .slice none 0 0, .slice none 0 0]) 28 ?hr ?_; (case hr => first | (go_simp; done) | (go_simp; rfl)); intro g8 w8 H1; clear H; have H := H1; clear H1; (try simp only [Act.put, List.setIfInBounds_toArray, List.set_cons_zero, List.set_cons_succ])) | ((with_reducible refine zqg (N := 9) rfl ?_); refine H.out.ld_row 1 rfl rfl rfl rfl Try.underlying28 rfl hs28 ?_; (try simp only [Act.put, List.setIfInBounds_toArray, List.set_cons_zero, List.set_cons_succ])) | (go_at_call 26; have _tk := tk0; refine (specOk_call HF.out HGB.out (HR.out.below H.out.bel)).mono ?_; rintro e w10 ⟨rfl, hb⟩; have H1 := Az.mk (H.out.step hb); clear hb; clear H; have H := H1; clear H1; clear tk0 _tk; have tk1 : True := trivial) | (go_at_call 51; have _tk := tk1; refine (l6In_call _ _ _ _ H14.out).mono ?_; rintro e w14 ⟨rfl, hb⟩; have H1 := Az.mk (H.out.step hb); clear hb; clear H; have H := H1; clear H1; clear tk1 _tk; have tk2 : True := trivial) | (go_at_call 51; have _tk := tk2; refine (l6In_call _ _ _ _ H19.out).mono ?_; rintro e w19 ⟨rfl, hb⟩; have H1 := Az.mk (H.out.step hb); clear hb; clear H; have H := H1; clear H1; clear tk2 _tk; have tk3 : True := trivial) | (go_at_call 51; have _tk := tk3; refine (l6In_call _ _ _ _ H24.out).mono ?_; rintro e w24 ⟨rfl, hb⟩; have H1 := Az.mk (H.out.step hb); clear hb; clear H; have H := H1; clear H1; clear tk3 _tk; have tk4 : True := trivial) | ((with_reducible refine gate_store (t := 28) (p := 8) rfl ?_); refine H.out.st_row 0 rfl rfl (x := .tmp 8) (y := .tmp 27) rfl rfl rfl ((#[.int .i64 0, .slice none 0 0, .slice none 0 0, .slice none 0 0, .slice none 0 0])) rfl hs28 rfl (by simp [Value.oneCell']) ?_; intro ws2_1 H1; clear H; have H := H1; clear H1))
        exact bodyPost_ret (results_cell_row rfl _ _ g8 28 _ (0, 0) _ rfl (H.out.box 0 rfl) Try.underlying28 rfl (by kernel_rfl)) rfl ⟨M0, rfl, own_no _ _ _, H.out.bel⟩
      | true =>
        cases e3 : decide (1 ≤ c ∧ c ≤ 255) with
        | false =>
          have H24 := Az.mk e3
          have HGB := Az.mk e0
          have H14 := Az.mk e1
          have H19 := Az.mk e2
          clear hno hb0 e0 e1 e2 e3
          go_enter Try.func43, Try.ntmps43
          go_wp2_with (first | ((with_reducible refine zqg (N := 4) rfl ?_); refine H.out.bx rfl ((cD M D)) 28 ?hr ?_; (case hr => first | (go_simp; done) | (go_simp; rfl)); intro g4 w4 H1; clear H; have H := H1; clear H1; (try simp only [Act.put, List.setIfInBounds_toArray, List.set_cons_zero, List.set_cons_succ])) | ((with_reducible refine zqg (N := 8) rfl ?_); refine H.out.bx rfl (#[.int .i64 0, .slice none 0 0, .slice none 0 0, .slice none 0 0, .slice none 0 0]) 28 ?hr ?_; (case hr => first | (go_simp; done) | (go_simp; rfl)); intro g8 w8 H1; clear H; have H := H1; clear H1; (try simp only [Act.put, List.setIfInBounds_toArray, List.set_cons_zero, List.set_cons_succ])) | ((with_reducible refine zqg (N := 9) rfl ?_); refine H.out.ld_row 1 rfl rfl rfl rfl Try.underlying28 rfl hs28 ?_; (try simp only [Act.put, List.setIfInBounds_toArray, List.set_cons_zero, List.set_cons_succ])) | (go_at_call 26; have _tk := tk0; refine (specOk_call HF.out HGB.out (HR.out.below H.out.bel)).mono ?_; rintro e w10 ⟨rfl, hb⟩; have H1 := Az.mk (H.out.step hb); clear hb; clear H; have H := H1; clear H1; clear tk0 _tk; have tk1 : True := trivial) | (go_at_call 51; have _tk := tk1; refine (l6In_call _ _ _ _ H14.out).mono ?_; rintro e w14 ⟨rfl, hb⟩; have H1 := Az.mk (H.out.step hb); clear hb; clear H; have H := H1; clear H1; clear tk1 _tk; have tk2 : True := trivial) | (go_at_call 51; have _tk := tk2; refine (l6In_call _ _ _ _ H19.out).mono ?_; rintro e w19 ⟨rfl, hb⟩; have H1 := Az.mk (H.out.step hb); clear hb; clear H; have H := H1; clear H1; clear tk2 _tk; have tk3 : True := trivial) | (go_at_call 51; have _tk := tk3; refine (l6In_call _ _ _ _ H24.out).mono ?_; rintro e w24 ⟨rfl, hb⟩; have H1 := Az.mk (H.out.step hb); clear hb; clear H; have H := H1; clear H1; clear tk3 _tk; have tk4 : True := trivial) | ((with_reducible refine gate_store (t := 28) (p := 8) rfl ?_); refine H.out.st_row 0 rfl rfl (x := .tmp 8) (y := .tmp 27) rfl rfl rfl ((#[.int .i64 0, .slice none 0 0, .slice none 0 0, .slice none 0 0, .slice none 0 0])) rfl hs28 rfl (by simp [Value.oneCell']) ?_; intro ws2_1 H1; clear H; have H := H1; clear H1))
          exact bodyPost_ret (results_cell_row rfl _ _ g8 28 _ (0, 0) _ rfl (H.out.box 0 rfl) Try.underlying28 rfl (by kernel_rfl)) rfl ⟨M0, rfl, own_no _ _ _, H.out.bel⟩
        | true =>
          exact absurd ⟨hb0.1 e0, by have h1 := of_decide_eq_true e1; have h2 := of_decide_eq_true e2; have h3 := of_decide_eq_true e3; unfold SpoilOk; omega⟩ hno
set_option maxHeartbeats 8000000 in
set_option maxRecDepth 100000 in
theorem specSpoil_yes {w : World} {M : Mm} {D : Dd} (a b : Nat) (c : Int) (h : Rd w M D) (hg : GoodD D) (hs : SpoilOk a b c) : Calls Try.prog 43 #[.agg (cD M D), .int .i64 (a : Int), .int .i64 (b : Int), .int .i64 c] w (Gives (spoilD D a b c) w) := by
  have hs28 := sizeE28
  have HF := Az.mk (fits_good hg)
  have HR := Az.mk h
  have H := Az.mk (Hd.start w)
  have tk0 : True := trivial
  have HGB : Az (goodB D.st D.l1 D.l2 D.l3 D.l4 = true) := ⟨decide_eq_true hg⟩
  have hs' := hs
  unfold SpoilOk at hs'
  have H14 : Az (decide (0 ≤ (a : Int) ∧ (a : Int) ≤ 11) = true) := ⟨decide_eq_true (by omega)⟩
  have H19 : Az (decide (0 ≤ (b : Int) ∧ (b : Int) ≤ 2) = true) := ⟨decide_eq_true (by omega)⟩
  have H24 : Az (decide (1 ≤ c ∧ c ≤ 255) = true) := ⟨decide_eq_true (by omega)⟩
  have hso := slot_good hg (a := a) (by omega)
  have HS : Az (SpoilIn D a b c) := ⟨by have := hg.sh.2.1; omega, by have := hg.sh.2.2.2.1; omega, by have := hg.sh.2.1; omega, by have := hg.sh.2.2.2.1; omega, by rcases hso with h | h <;> omega, by rcases hso with h | h <;> omega, by omega⟩
  clear h hg hs hs' hso
  go_enter Try.func43, Try.ntmps43
  go_wp2_with (first | ((with_reducible refine zqg (N := 4) rfl ?_); refine H.out.bx rfl ((cD M D)) 28 ?hr ?_; (case hr => first | (go_simp; done) | (go_simp; rfl)); intro g4 w4 H1; clear H; have H := H1; clear H1; (try simp only [Act.put, List.setIfInBounds_toArray, List.set_cons_zero, List.set_cons_succ])) | ((with_reducible refine zqg (N := 8) rfl ?_); refine H.out.bx rfl (#[.int .i64 0, .slice none 0 0, .slice none 0 0, .slice none 0 0, .slice none 0 0]) 28 ?hr ?_; (case hr => first | (go_simp; done) | (go_simp; rfl)); intro g8 w8 H1; clear H; have H := H1; clear H1; (try simp only [Act.put, List.setIfInBounds_toArray, List.set_cons_zero, List.set_cons_succ])) | ((with_reducible refine zqg (N := 9) rfl ?_); refine H.out.ld_row 1 rfl rfl rfl rfl Try.underlying28 rfl hs28 ?_; (try simp only [Act.put, List.setIfInBounds_toArray, List.set_cons_zero, List.set_cons_succ])) | (go_at_call 26; have _tk := tk0; refine (specOk_call HF.out HGB.out (HR.out.below H.out.bel)).mono ?_; rintro e w10 ⟨rfl, hb⟩; have H1 := Az.mk (H.out.step hb); clear hb; clear H; have H := H1; clear H1; clear tk0 _tk; have tk1 : True := trivial) | (go_at_call 51; have _tk := tk1; refine (l6In_call _ _ _ _ H14.out).mono ?_; rintro e w14 ⟨rfl, hb⟩; have H1 := Az.mk (H.out.step hb); clear hb; clear H; have H := H1; clear H1; clear tk1 _tk; have tk2 : True := trivial) | (go_at_call 51; have _tk := tk2; refine (l6In_call _ _ _ _ H19.out).mono ?_; rintro e w19 ⟨rfl, hb⟩; have H1 := Az.mk (H.out.step hb); clear hb; clear H; have H := H1; clear H1; clear tk2 _tk; have tk3 : True := trivial) | (go_at_call 51; have _tk := tk3; refine (l6In_call _ _ _ _ H24.out).mono ?_; rintro e w24 ⟨rfl, hb⟩; have H1 := Az.mk (H.out.step hb); clear hb; clear H; have H := H1; clear H1; clear tk3 _tk; have tk4 : True := trivial) | ((with_reducible refine zqg (N := 28) rfl ?_); refine H.out.ld_row 1 rfl rfl rfl rfl Try.underlying28 rfl hs28 ?_; (try simp only [Act.put, List.setIfInBounds_toArray, List.set_cons_zero, List.set_cons_succ])) | (go_at_call 80; have _tk := tk4; refine (l3Copy_call HF.out (HR.out.below H.out.bel)).mono ?_; rintro e w29 ⟨M29, rfl, ho, hb⟩; have O29 := Az.mk ho; clear ho; have H1 := Az.mk (H.out.made hb); clear hb; clear H; have H := H1; clear H1; clear tk4 _tk; have tk5 : True := trivial) | (go_at_call 87; have _tk := tk5; refine (l3Spoil_call (H.out.own 0 rfl O29.out) (H.out.same_le 0 rfl) HS.out).mono ?_; rintro e w33 ⟨rfl, ho, hb, hk⟩; have O33 := Az.mk ho; have hb := hb.mono (H.out.same_ge 0 rfl); clear ho; have H1 := Az.mk (H.out.wrote 0 rfl hb hk); clear hb hk; clear H; have H := H1; clear H1; clear tk5 _tk; have tk6 : True := trivial) | ((with_reducible refine gate_store (t := 28) (p := 8) rfl ?_); refine H.out.st_row 1 rfl rfl (x := .tmp 8) (y := .tmp 33) rfl rfl rfl ((cD M29 (spoilD D a b c))) rfl hs28 rfl (cD_one _ _) ?_; intro ws3_6 H1; clear H; have H := H1; clear H1))
  exact bodyPost_ret (results_cell_row rfl _ _ g8 28 _ (0, 0) _ rfl (H.out.box 1 rfl) Try.underlying28 rfl (by kernel_rfl)) rfl ⟨M29, rfl, (H.out.own 0 rfl O33.out).lower (H.out.same_ge 0 rfl) (H.out.same_le 0 rfl), H.out.bel⟩
theorem specSpoil_call {w : World} {M : Mm} {D : Dd} (a b c : Int) (hf : FitsD D) (h : Rd w M D) : Calls Try.prog 43 #[.agg (cD M D), .int .i64 a, .int .i64 b, .int .i64 c] w (Gives (spoilS D a b c) w) := by
  by_cases hg : GoodD D ∧ SpoilOk a b c
  · have e : spoilS D a b c = spoilD D a.toNat b.toNat c := if_pos hg
    rw [e]
    obtain ⟨a, rfl⟩ := Int.eq_ofNat_of_zero_le hg.2.1
    obtain ⟨b, rfl⟩ := Int.eq_ofNat_of_zero_le hg.2.2.2.1
    exact specSpoil_yes a b c h hg.1 hg.2
  · have e : spoilS D a b c = noD := if_neg hg
    rw [e]
    exact specSpoil_no a b c hf h hg
theorem fits_spoil {D : Dd} {a b c : Int} (h : FitsD D) : FitsD (spoilS D a b c) := by
  unfold spoilS
  split
  · unfold spoilD
    split
    · exact h
    · exact ⟨by rw [List.length_set]; exact h.h1, h.h2, by rw [List.length_set]; exact h.h3, h.h4⟩
  · exact fits_no
end Go.Proofs.Ytkgpnloghmbmlaa.Hd
namespace Go.Proofs.Ytkgpnloghmbmlaa.Hd
open Go.RowKit Go.Proofs.Ytkgpnloghmbmlaa.Print Go.Proofs.YtkgpnloghmbmlaaW.PrintWords Go.Proofs.YtkgpnloghmbmlaaW.PrintLast Go.Proofs.YtkgpnloghmbmlaaW.PrintMore Go.Proofs.Ytkgpnloghmbmlaa.Pure
set_option linter.unusedVariables false
set_option linter.unusedSimpArgs false
set_option maxHeartbeats 8000000 in
set_option maxRecDepth 100000 in
theorem law_FnExactDiskSpoil (M : Mm) (D : Da) (a b c : Int) (w : World) (h : RdA w M D) (hw : Take.W39 ⟨D.st, D.l1, D.l2, D.l3, D.l4⟩) : Calls Try.prog 13 #[.agg (cA M D), .int .i64 a, .int .i64 b, .int .i64 c] w fun e w' => e = .returned (.bool true) ∧ Below w.heap.size w w' := by
  have hs28 := sizeE28
  have hs39 := sizeE39
  have HR := Az.mk h
  obtain ⟨t, _, hfit, hsz⟩ := szDisk_call D 1048576 (by omega) hw
  have HSZ := Az.mk hsz
  clear h hw hsz
  by_cases c_t : t < 0
  · have l_t : decide (t < 0) = true := decide_eq_true c_t
    clear c_t
    have H := Az.mk (Hd.start w)
    have tk0 : True := trivial
    go_enter Try.func13, Try.ntmps13
    go_wp2_with (first | ((with_reducible refine zqg (N := 4) rfl ?_); refine H.out.bx rfl ((cA M D)) 39 ?hr ?_; (case hr => first | (go_simp; done) | (go_simp; rfl)); intro g4 w4 H1; clear H; have H := H1; clear H1; (try simp only [Act.put, List.setIfInBounds_toArray, List.set_cons_zero, List.set_cons_succ])) | ((with_reducible refine zqg (N := 17) rfl ?_); refine H.out.ld_row 0 rfl rfl rfl rfl Try.underlying39 rfl hs39 ?_; (try simp only [Act.put, List.setIfInBounds_toArray, List.set_cons_zero, List.set_cons_succ])) | (go_at_call 25; have _tk := tk0; refine (HSZ.out _ _ (H.out.rdA HR.out)).mono ?_; rintro e w19 ⟨rfl, hb⟩; have H1 := Az.mk (H.out.step hb); clear hb; clear H; have H := H1; clear H1; clear tk0 _tk; have tk1 : True := trivial))
    go_ret
    exact ⟨rfl, H.out.bel⟩
  · have l_t : decide (t < 0) = false := decide_eq_false c_t
    have HF := Az.mk (hfit c_t)
    have HG := Az.mk (fits_spoil (a := a) (b := b) (c := c) HF.out)
    clear hfit
    clear c_t
    have H := Az.mk (Hd.start w)
    have tk0 : True := trivial
    go_enter Try.func13, Try.ntmps13
    go_wp2_with (first | ((with_reducible refine zqg (N := 4) rfl ?_); refine H.out.bx rfl ((cA M D)) 39 ?hr ?_; (case hr => first | (go_simp; done) | (go_simp; rfl)); intro g4 w4 H1; clear H; have H := H1; clear H1; (try simp only [Act.put, List.setIfInBounds_toArray, List.set_cons_zero, List.set_cons_succ])) | ((with_reducible refine zqg (N := 17) rfl ?_); refine H.out.ld_row 0 rfl rfl rfl rfl Try.underlying39 rfl hs39 ?_; (try simp only [Act.put, List.setIfInBounds_toArray, List.set_cons_zero, List.set_cons_succ])) | (go_at_call 25; have _tk := tk0; refine (HSZ.out _ _ (H.out.rdA HR.out)).mono ?_; rintro e w19 ⟨rfl, hb⟩; have H1 := Az.mk (H.out.step hb); clear hb; clear H; have H := H1; clear H1; clear tk0 _tk; have tk1 : True := trivial) | ((with_reducible refine zqg (N := 22) rfl ?_); refine H.out.ld_row 0 rfl rfl rfl rfl Try.underlying39 rfl hs39 ?_; (try simp only [Act.put, List.setIfInBounds_toArray, List.set_cons_zero, List.set_cons_succ])) | (go_at_call 27; have _tk := tk1; refine (toDisk_call HF.out (H.out.rdA HR.out)).mono ?_; rintro e w23 ⟨M23, rfl, ho, hb⟩; have O23 := Az.mk ho; clear ho; have H1 := Az.mk (H.out.made hb); clear hb; clear H; have H := H1; clear H1; clear tk1 _tk; have tk2 : True := trivial) | (go_at_call 43; have _tk := tk2; refine (specSpoil_call a b c HF.out (H.out.rd 0 rfl O23.out)).mono ?_; rintro e w27 ⟨M27, rfl, ho, hb⟩; have O27 := Az.mk ho; clear ho; have H1 := Az.mk (H.out.made hb); clear hb; clear H; have H := H1; clear H1; clear tk2 _tk; have tk3 : True := trivial) | ((with_reducible refine zqg (N := 10) rfl ?_); refine H.out.bx rfl (#[.int .i64 0, .slice none 0 0, .slice none 0 0, .slice none 0 0, .slice none 0 0]) 28 ?hr ?_; (case hr => first | (go_simp; done) | (go_simp; rfl)); intro g10 w10 H1; clear H; have H := H1; clear H1; (try simp only [Act.put, List.setIfInBounds_toArray, List.set_cons_zero, List.set_cons_succ])) | ((with_reducible refine gate_store (t := 28) (p := 10) rfl ?_); refine H.out.st_row 0 rfl rfl (x := .tmp 10) (y := .tmp 27) rfl rfl rfl ((cD M27 (spoilS (toD D) a b c))) rfl hs28 rfl (cD_one _ _) ?_; intro ws5_7 H1; clear H; have H := H1; clear H1) | ((with_reducible refine zqg (N := 28) rfl ?_); refine H.out.ld_row 3 rfl rfl rfl rfl Try.underlying39 rfl hs39 ?_; (try simp only [Act.put, List.setIfInBounds_toArray, List.set_cons_zero, List.set_cons_succ])) | (go_at_call 27; have _tk := tk3; refine (toDisk_call HF.out (H.out.rdA HR.out)).mono ?_; rintro e w29 ⟨M29, rfl, ho, hb⟩; have O29 := Az.mk ho; clear ho; have H1 := Az.mk (H.out.made hb); clear hb; clear H; have H := H1; clear H1; clear tk3 _tk; have tk4 : True := trivial) | ((with_reducible refine zqg (N := 11) rfl ?_); refine H.out.bx rfl (#[.int .i64 0, .slice none 0 0, .slice none 0 0, .slice none 0 0, .slice none 0 0]) 28 ?hr ?_; (case hr => first | (go_simp; done) | (go_simp; rfl)); intro g11 w11 H1; clear H; have H := H1; clear H1; (try simp only [Act.put, List.setIfInBounds_toArray, List.set_cons_zero, List.set_cons_succ])) | ((with_reducible refine gate_store (t := 28) (p := 11) rfl ?_); refine H.out.st_row 0 rfl rfl (x := .tmp 11) (y := .tmp 29) rfl rfl rfl ((cD M29 (toD D))) rfl hs28 rfl (cD_one _ _) ?_; intro ws6_3 H1; clear H; have H := H1; clear H1) | ((with_reducible refine zqg (N := 30) rfl ?_); refine H.out.ld_row 0 rfl rfl rfl rfl Try.underlying28 rfl hs28 ?_; (try simp only [Act.put, List.setIfInBounds_toArray, List.set_cons_zero, List.set_cons_succ])) | (go_at_call 42; have _tk := tk4; refine (implSpoil_call a b c  (H.out.rd 1 rfl O29.out)).mono ?_; rintro e w34 ⟨M34, rfl, ho, hb⟩; have O34 := Az.mk ho; clear ho; have H1 := Az.mk (H.out.made hb); clear hb; clear H; have H := H1; clear H1; clear tk4 _tk; have tk5 : True := trivial) | ((with_reducible refine zqg (N := 12) rfl ?_); refine H.out.bx rfl (#[.int .i64 0, .slice none 0 0, .slice none 0 0, .slice none 0 0, .slice none 0 0]) 28 ?hr ?_; (case hr => first | (go_simp; done) | (go_simp; rfl)); intro g12 w12 H1; clear H; have H := H1; clear H1; (try simp only [Act.put, List.setIfInBounds_toArray, List.set_cons_zero, List.set_cons_succ])) | ((with_reducible refine gate_store (t := 28) (p := 12) rfl ?_); refine H.out.st_row 0 rfl rfl (x := .tmp 12) (y := .tmp 34) rfl rfl rfl ((cD M34 (spoilS (toD D) a b c))) rfl hs28 rfl (cD_one _ _) ?_; intro ws7_6 H1; clear H; have H := H1; clear H1) | ((with_reducible refine zqg (N := 35) rfl ?_); refine H.out.ld_row 0 rfl rfl rfl rfl Try.underlying28 rfl hs28 ?_; (try simp only [Act.put, List.setIfInBounds_toArray, List.set_cons_zero, List.set_cons_succ])) | ((with_reducible refine zqg (N := 36) rfl ?_); refine H.out.ld_row 4 rfl rfl rfl rfl Try.underlying28 rfl hs28 ?_; (try simp only [Act.put, List.setIfInBounds_toArray, List.set_cons_zero, List.set_cons_succ])) | (go_at_call 22; have _tk := tk5; refine (eqDisk_call HG.out (H.out.rd 1 rfl O34.out) (H.out.rd 5 rfl O27.out)).mono ?_; rintro e w37 ⟨rfl, hb⟩; have H1 := Az.mk (H.out.step hb); clear hb; clear H; have H := H1; clear H1; clear tk5 _tk; have tk6 : True := trivial))
    refine start_ (n := 5) (S := fun w' => Hd w.heap.size w w' [.box g12 ((cD M34 (spoilS (toD D) a b c))) 28, .same (ws6_3.heap.size) (w34.heap.size) w34, .box g11 ((cD M29 (toD D))) 28, .same (ws5_7.heap.size) (w29.heap.size) w29, .box g10 ((cD M27 (spoilS (toD D) a b c))) 28, .same (w23.heap.size) (w27.heap.size) w27, .same (w19.heap.size) (w23.heap.size) w23, .box g4 ((cA M D)) 39]) (ds := []) #[false, false, false, false, false] (by kernel_rfl) rfl rfl (H.out.drew) (fun hHeld => ?_)
    clear H
    generalize World.drew w37 = wd10 at hHeld ⊢
    have H := Az.mk hHeld
    refine zqt (i := 0) (N := some 39) (v := .agg ((cD M29 (toD D)))) (a' := ?_) #[true, false, false, false, false] rfl rfl (by kernel_rfl) (fun _ _ _ h => h) (Or.inl ⟨by rfl, fun w' s0 => s0.run_row 2 rfl rfl rfl Try.underlying28 rfl hs28⟩) hHeld ?_ ?_
    rotate_left
    · simp only [Act.put, List.setIfInBounds_toArray, List.set_cons_zero, List.set_cons_succ, i64_w, i32_w]
      rfl
    refine zqt (i := 1) (N := some 40) (v := .agg ((cA M D))) (a' := ?_) #[true, true, false, false, false] rfl rfl (by kernel_rfl) (fun _ _ _ h => h) (Or.inl ⟨by rfl, fun w' s0 => s0.run_row 7 rfl rfl rfl Try.underlying39 rfl hs39⟩) hHeld ?_ ?_
    rotate_left
    · simp only [Act.put, List.setIfInBounds_toArray, List.set_cons_zero, List.set_cons_succ, i64_w, i32_w]
      rfl
    refine one_ (i := 2) (N := some 41) #[true, true, true, false, false] rfl rfl (by kernel_rfl) (by decide) (fun K hK => ?_)
    refine goes_ Try.func27 (by kernel_rfl) rfl #[.agg ((cA M D))] (by rfl) rfl rfl (by (try simp only [List.map_toArray, List.map_cons, List.map_nil]); first | done | rfl) ?_
    refine (toDisk_call HF.out (H.out.rdA HR.out)).mono ?_
    rintro e w41 ⟨M41, rfl, ho, hb⟩
    refine ⟨_, rfl, ?_⟩
    have O41 := Az.mk ho
    clear ho
    have H1 := Az.mk (H.out.made hb); clear hb; clear H; have H := H1; clear H1
    refine hK.out _ _ (H.out.less) (fun hHeld => ?_)
    clear hK K
    refine norm_ (a' := ?_) ?_ ?_
    rotate_left
    · show Act.put _ (some 41) _ = _
      simp only [Act.put, List.setIfInBounds_toArray, List.set_cons_zero, List.set_cons_succ, i64_w, i32_w]
      rfl
    refine one_ (i := 3) (N := some 42) #[true, true, true, true, false] rfl rfl (by kernel_rfl) (by decide) (fun K hK => ?_)
    refine goes_ Try.func22 (by kernel_rfl) rfl #[.agg ((cD M29 (toD D))), .agg (cD M41 (toD D))] (by rfl) rfl rfl (by (try simp only [List.map_toArray, List.map_cons, List.map_nil]); first | done | rfl) ?_
    refine (eqDisk_call HF.out (H.out.rd 4 rfl O29.out) (H.out.rd 0 rfl O41.out)).mono ?_
    rintro e w42 ⟨rfl, hb⟩
    refine ⟨_, rfl, ?_⟩
    have H1 := Az.mk (H.out.step hb); clear hb; clear H; have H := H1; clear H1
    refine hK.out _ _ (H.out.less) (fun hHeld => ?_)
    clear hK K
    refine norm_ (a' := ?_) ?_ ?_
    rotate_left
    · show Act.put _ (some 42) _ = _
      simp only [Act.put, List.setIfInBounds_toArray, List.set_cons_zero, List.set_cons_succ, i64_w, i32_w]
      rfl
    refine zqp (i := 4) (N := some 43) (v := ?_) (a' := ?_) #[true, true, true, true, true] rfl rfl (by kernel_rfl) (fun _ _ _ h => h) (Or.inl ⟨by rfl, ?_⟩) ?_ ?_
    rotate_left
    · intro w'
      go_simp
      with_reducible rfl
    rotate_left
    · simp only [Act.put, List.setIfInBounds_toArray, List.set_cons_zero, List.set_cons_succ, i64_w, i32_w]
      rfl
    refine done_ (by kernel_rfl) ?_
    skip
    go_wp2_with (first | ((with_reducible refine zqg (N := 44) rfl ?_); refine H.out.ld_row 3 rfl rfl rfl rfl Try.underlying28 rfl hs28 ?_; (try simp only [Act.put, List.setIfInBounds_toArray, List.set_cons_zero, List.set_cons_succ])) | (go_at_call 23; have _tk := tk6; refine (markDisk_call HF.out H.out.bel (H.out.same_ge 4 rfl) (H.out.own 4 rfl O29.out)).mono ?_; rintro e w46 ⟨m46, D46, rfl, hc, ho, hh, hf, hb, hk⟩; have C46 := Az.mk hc; have O46 := Az.mk ho; have HH46 := Az.mk hh; have c46 : decide ((m46 : Int) < 0) = false := decide_eq_false (by omega); clear ho hc hh hf; have H1 := Az.mk (H.out.wrote 4 rfl hb hk); clear hb hk; clear H; have H := H1; clear H1; clear tk6 _tk; have tk7 : True := trivial) | ((with_reducible refine zqg (N := 50) rfl ?_); refine gate_guard (by rfl) ?_; dsimp only; refine H.out.ld_row 1 rfl rfl rfl rfl Try.underlying28 rfl hs28 ?_; (try simp only [Act.put, List.setIfInBounds_toArray, List.set_cons_zero, List.set_cons_succ])) | ((with_reducible refine zqg (N := 51) rfl ?_); refine gate_guard (by rfl) ?_; dsimp only; refine H.out.ld_row 5 rfl rfl rfl rfl Try.underlying28 rfl hs28 ?_; (try simp only [Act.put, List.setIfInBounds_toArray, List.set_cons_zero, List.set_cons_succ])) | (go_at_call 22; have _tk := tk7; refine (eqDisk_call HG.out (H.out.rd 2 rfl O34.out) (H.out.rd 6 rfl O27.out)).mono ?_; rintro e w52 ⟨rfl, hb⟩; have H1 := Az.mk (H.out.step hb); clear hb; clear H; have H := H1; clear H1; clear tk7 _tk; have tk8 : True := trivial) | ((with_reducible refine zqg (N := 55) rfl ?_); refine H.out.ld_row 1 rfl rfl rfl rfl Try.underlying28 rfl hs28 ?_; (try simp only [Act.put, List.setIfInBounds_toArray, List.set_cons_zero, List.set_cons_succ])) | (go_at_call 23; have _tk := tk8; refine (markDisk_call HG.out H.out.bel (H.out.same_ge 2 rfl) (H.out.own 2 rfl O34.out)).mono ?_; rintro e w57 ⟨m57, D57, rfl, hc, ho, hh, hf, hb, hk⟩; have C57 := Az.mk hc; have O57 := Az.mk ho; have HH57 := Az.mk hh; have c57 : decide ((m57 : Int) < 0) = false := decide_eq_false (by omega); clear ho hc hh hf; have H1 := Az.mk (H.out.wrote 2 rfl hb hk); clear hb hk; clear H; have H := H1; clear H1; clear tk8 _tk; have tk9 : True := trivial) | ((with_reducible refine zqg (N := 58) rfl ?_); refine H.out.ld_row 1 rfl rfl rfl rfl Try.underlying28 rfl hs28 ?_; (try simp only [Act.put, List.setIfInBounds_toArray, List.set_cons_zero, List.set_cons_succ])) | (go_at_call 24; have _tk := tk9; refine (held_call C57.out HH57.out (H.out.rd 2 rfl O57.out)).mono ?_; rintro e w60 ⟨rfl, hb⟩; have H1 := Az.mk (H.out.step hb); clear hb; clear H; have H := H1; clear H1; clear tk9 _tk; have tk10 : True := trivial) | ((with_reducible refine zqg (N := 66) rfl ?_); refine H.out.ld_row 8 rfl rfl rfl rfl Try.underlying39 rfl hs39 ?_; (try simp only [Act.put, List.setIfInBounds_toArray, List.set_cons_zero, List.set_cons_succ])) | (go_at_call 27; have _tk := tk10; refine (toDisk_call HF.out (H.out.rdA HR.out)).mono ?_; rintro e w67 ⟨M67, rfl, ho, hb⟩; have O67 := Az.mk ho; clear ho; have H1 := Az.mk (H.out.made hb); clear hb; clear H; have H := H1; clear H1; clear tk10 _tk; have tk11 : True := trivial) | (go_at_call 42; have _tk := tk11; refine (implSpoil_call a b c  (H.out.rd 0 rfl O67.out)).mono ?_; rintro e w71 ⟨M71, rfl, ho, hb⟩; have O71 := Az.mk ho; clear ho; have H1 := Az.mk (H.out.made hb); clear hb; clear H; have H := H1; clear H1; clear tk11 _tk; have tk12 : True := trivial) | ((with_reducible refine zqg (N := 16) rfl ?_); refine H.out.bx rfl (#[.int .i64 0, .slice none 0 0, .slice none 0 0, .slice none 0 0, .slice none 0 0]) 28 ?hr ?_; (case hr => first | (go_simp; done) | (go_simp; rfl)); intro g16 w16 H1; clear H; have H := H1; clear H1; (try simp only [Act.put, List.setIfInBounds_toArray, List.set_cons_zero, List.set_cons_succ])) | ((with_reducible refine gate_store (t := 28) (p := 16) rfl ?_); refine H.out.st_row 0 rfl rfl (x := .tmp 16) (y := .tmp 71) rfl rfl rfl ((cD M71 (spoilS (toD D) a b c))) rfl hs28 rfl (cD_one _ _) ?_; intro ws24_7 H1; clear H; have H := H1; clear H1) | ((with_reducible refine zqg (N := 72) rfl ?_); refine H.out.ld_row 0 rfl rfl rfl rfl Try.underlying28 rfl hs28 ?_; (try simp only [Act.put, List.setIfInBounds_toArray, List.set_cons_zero, List.set_cons_succ])) | ((with_reducible refine zqg (N := 73) rfl ?_); refine H.out.ld_row 8 rfl rfl rfl rfl Try.underlying28 rfl hs28 ?_; (try simp only [Act.put, List.setIfInBounds_toArray, List.set_cons_zero, List.set_cons_succ])) | (go_at_call 22; have _tk := tk12; refine (eqDisk_call HG.out (H.out.rd 1 rfl O71.out) (H.out.rd 9 rfl O27.out)).mono ?_; rintro e w74 ⟨rfl, hb⟩; have H1 := Az.mk (H.out.step hb); clear hb; clear H; have H := H1; clear H1; clear tk12 _tk; have tk13 : True := trivial) | ((with_reducible refine zqg (N := 76) rfl ?_); refine H.out.ld_row 4 rfl rfl rfl rfl Try.underlying28 rfl hs28 ?_; (try simp only [Act.put, List.setIfInBounds_toArray, List.set_cons_zero, List.set_cons_succ])) | (go_at_call 24; have _tk := tk13; refine (held_call C57.out HH57.out (H.out.rd 5 rfl O57.out)).mono ?_; rintro e w78 ⟨rfl, hb⟩; have H1 := Az.mk (H.out.step hb); clear hb; clear H; have H := H1; clear H1; clear tk13 _tk; have tk14 : True := trivial))
    go_ret
    exact ⟨rfl, H.out.bel⟩
end Go.Proofs.Ytkgpnloghmbmlaa.Hd
namespace Go.Proofs.Ytkgpnloghmbmlaa.fnExactDiskSpoil
open Go.ChangeShapes Go.WideShapes Go.ChangeAt Go.RowKit Go.Proofs.Ytkgpnloghmbmlaa.Print Go.Proofs.Ytkgpnloghmbmlaa.Take Go.Proofs.YtkgpnloghmbmlaaW.PrintWords
open Go.ChangeMaps (open_string shut_string)
set_option linter.unusedVariables false
theorem own : ownKnob Try.prog.godebug = none := by kernel_rfl
theorem laidOut : laidOutB Try.prog = true := by kernel_rfl
set_option maxRecDepth 100000 in
theorem lifted (os : Os) (started : os.Started) (H : Type) (enc : TypeId × Value → H) :
    ReturnsInHanded {} Try.checked os 13 .any (Rows.fnExactDiskSpoilSpec.pre6 enc Try.prog Try.f13 Rows.fnExactDiskSpoilRow.domain false) (Rows.fnExactDiskSpoilSpec.post enc Try.prog Try.f13 false true false false) := by
  refine returnsInHanded_of_change_sized (C := Try.checked) own started (by kernel_rfl) Try.func13
    (ChangeSpec.witness6 (enc := enc) (C := Try.checked) false ⟨#[], #[.agg #[.int .i64 0, .slice none 0 0, .slice none 0 0, .slice none 0 0, .slice none 0 0], .int .i64 0, .int .i64 0, .int .i64 0], []⟩ 8 (by kernel_rfl) (by kernel_rfl) (by kernel_rfl) (by kernel_rfl)) ?_
  intro W base args ds gs before hval0 hW hcnd hsz0 _
  have hsz : (DataW.weightsEach Try.prog (Try.f13.params.toList ++ Rows.fnExactDiskSpoilSpec.plain.varTypes Try.prog) (ds ++ gs)).all (· ≤ reachBytes) = true := hsz0
  have hval : ∀ (j : Nat) t v, Try.f13.params[j]? = some t → args[j]? = some v → Value.okWide Try.prog W .any base t v := hval0
  have hW' := hW
  obtain ⟨p, q, hA0, hV, rfl, hfz, hnd⟩ := hW
  have hA : DataW.TrodAll enc Try.prog W 0 (fun _ => true) true Try.f13.params.toList args.toList ds p := hA0
  rw [Try.params13] at hA hval hsz
  obtain ⟨v0, vs0, d0, ds0, p0, q0, hargs, rfl, rfl, h0, r0⟩ := trodAll_cons hA
  obtain ⟨v1, vs1, d1, ds1, p1, q1, rfl, rfl, rfl, h1, r1⟩ := trodAll_cons r0
  obtain ⟨v2, vs2, d2, ds2, p2, q2, rfl, rfl, rfl, h2, r2⟩ := trodAll_cons r1
  obtain ⟨v3, vs3, d3, ds3, p3, q3, rfl, rfl, rfl, h3, r3⟩ := trodAll_cons r2
  obtain ⟨rfl, rfl, rfl⟩ := trodAll_nil r3
  obtain rfl : args = #[v0, v1, v2, v3] := by cases args; simp_all
  obtain ⟨rfl, rfl⟩ := trodVars_none hV
  obtain ⟨b0, rfl, _⟩ := okWide_struct Try.underlying39 (hval 0 39 v0 rfl rfl)
  have k0 := h0
  have lt0 : ∀ x ∈ p0, x.block < W.heap.size := by obtain ⟨m, hm⟩ := k0; exact DataW.trod_lt m _ _ _ hm
  obtain ⟨n0, hf0⟩ := h0
  obtain ⟨y0, hk0, w0⟩ := o39.opens _ _ _ _ _ _ _ _ _ hf0
  obtain ⟨A0_1, c0_1, A0_2, c0_2, A0_3, c0_3, A0_4, c0_4, hcs0, hc0_1, hr0_1, hc0_2, hr0_2, hc0_3, hr0_3, hc0_4, hr0_4⟩ := k39_open hk0
  obtain rfl : b0 = #[.int .i64 y0.f0, .slice A0_1 y0.f1.length c0_1, .slice A0_2 y0.f2.length c0_2, .slice A0_3 y0.f3.length c0_3, .slice A0_4 y0.f4.length c0_4] := by cases b0; simpa [Value.cells] using hcs0
  obtain ⟨a1, rfl, rfl, rfl, w1⟩ := open_int Try.underlying3 (hval 1 3 v1 rfl rfl) h1
  obtain ⟨a2, rfl, rfl, rfl, w2⟩ := open_int Try.underlying3 (hval 2 3 v2 rfl rfl) h2
  obtain ⟨a3, rfl, rfl, rfl, w3⟩ := open_int Try.underlying3 (hval 3 3 v3 rfl rfl) h3
  clear hA0 hval0 hsz0 hsz
  skip
  refine (Hd.law_FnExactDiskSpoil ⟨A0_1, c0_1, A0_2, c0_2, A0_3, c0_3, A0_4, c0_4⟩ ⟨y0.f0, y0.f1, y0.f2, y0.f3, y0.f4⟩ a1 a2 a3 W ⟨hr0_1, hc0_1, hr0_2, hc0_2, hr0_3, hc0_3, hr0_4, hc0_4⟩ w0).mono fun e W' ⟨he, bel0⟩ => ?_
  have bel := bel0
  subst he
  exact ⟨_, rfl, _, _, _, [], _, [], hW', trodAll_mk1 (shut_bool Try.underlying4 _), (trodAll_cons_mk (Below.trod laidOut (by kernel_rfl) (of_decide_eq_true (by kernel_rfl)) k0 bel lt0) (trodAll_cons_mk (shut_int Try.underlying3 w1) (trodAll_cons_mk (shut_int Try.underlying3 w2) (trodAll_cons_mk (shut_int Try.underlying3 w3) trodAll_mk0)))), rfl, bel.frame _, fun h => by cases h⟩
theorem over : Rows.fnExactDiskSpoilRow.holds Try.pinned (OpenSpec.ofChange Rows.fnExactDiskSpoilSpec) :=
  OpenClaim.holds_of_wide 13 Try.f13 rfl rfl rfl rfl rfl rfl rfl ⟨rfl, rfl, rfl, rfl, rfl⟩ rfl rfl rfl rfl rfl (by kernel_rfl) Try.func13 (by kernel_rfl)
    (of_decide_eq_true (by kernel_rfl)) (by unfold Func.isWrapper; first | (rw [if_pos (by decide +kernel)]; kernel_rfl) | (rw [if_neg (by decide +kernel)]; exact ⟨rfl, rfl⟩))
    (fun os started H enc _ => lifted os started H enc)
theorem proved : Rows.FnExactDiskSpoilSaid := over
#print axioms proved
end Go.Proofs.Ytkgpnloghmbmlaa.fnExactDiskSpoil
namespace Go.Proofs.Ytkgpnloghmbmlaa
theorem fnExactDiskSpoil_holds : Rows.FnExactDiskSpoilSaid := fnExactDiskSpoil.proved
end Go.Proofs.Ytkgpnloghmbmlaa
