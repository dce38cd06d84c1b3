/- Proved, with what follows on it: the row of the law FnExactRootPlaces. Conditions: the row's alone. Texts of this session and words that the kit's print laid for this seat, merged and cut by shrink.py, a program of this session. -/
import Derived.Test.YtkoimmeghdbodaaZFnExactRootPlacesE
namespace Go.Proofs.Ytkoimmeghdbodaa.Print
open Go.RowKit Go.Proofs.YtkoimmeghdbodaaW.PrintWords Go.Proofs.YtkoimmeghdbodaaW.PrintLast Go.Proofs.YtkoimmeghdbodaaW.PrintMore
attribute [local go_sem] max2_int min2_int max_two min_two max_three min_three max_four min_four   -- for this text's walks alone
set_option linter.unusedVariables false
set_option linter.unusedSimpArgs false
def spec_RootOk.f (k : Nat) (a0 : Int) (a1_0 : Int) (l1_1 : List (S65)) : Option (Bool) := (spec_l2Disks.f a0).bind fun t459 => (if t459 = true then ((spec_l6In.f a1_0 0 100000).bind fun t460 => (if t460 = true then (if (l1_1.length : Int) ≤ 4 then ((spec_l2Vols.f k a0 a1_0 l1_1).bind fun t461 => (some t461)) else (some false)) else (some false))) else (some false))
set_option maxHeartbeats 8000000 in
set_option maxRecDepth 100000 in
theorem spec_RootOk.calls (k : Nat) (a0 : Int) (a1_0 : Int) (A1_1 : Option Addr) (c1_1 : Nat) (l1_1 : List (S65)) (r : Bool) (w : World) (hr1_1 : Kd.C k65 w A1_1 l1_1.length l1_1) (hc1_1 : l1_1.length ≤ c1_1) (h : spec_RootOk.f k a0 a1_0 l1_1 = some r) :
  Calls Try.prog 36 #[.int .i64 a0, .agg #[.int .i64 a1_0, .slice A1_1 l1_1.length c1_1]] w fun e w' => e = .returned (.bool r) ∧ Below w.heap.size w w' := by
 have hu57 := Try.underlying57
 have HR1_1 := Az.mk hr1_1
 have HC1_1 := Az.mk hc1_1
 clear hr1_1 hc1_1
 have HB := Az.mk (Below.refl w.heap.size w)
 have H : ((spec_l2Disks.f a0).bind fun t459 => (if t459 = true then ((spec_l6In.f a1_0 0 100000).bind fun t460 => (if t460 = true then (if (l1_1.length : Int) ≤ 4 then ((spec_l2Vols.f k a0 a1_0 l1_1).bind fun t461 => (some t461)) else (some false)) else (some false))) else (some false))) = some r := h
 clear h
 replace H := Option.bind_eq_some_iff.mp H
 obtain ⟨t459, A30, H⟩ := H
 replace H : (if t459 = true then ((spec_l6In.f a1_0 0 100000).bind fun t460 => (if t460 = true then (if (l1_1.length : Int) ≤ 4 then ((spec_l2Vols.f k a0 a1_0 l1_1).bind fun t461 => (some t461)) else (some false)) else (some false))) else (some false)) = some r := H
 have A3 := Az.mk A30
 clear A30
 by_cases c4 : t459 = true
 ·subst c4
  have H1 : ((spec_l6In.f a1_0 0 100000).bind fun t460 => (if t460 = true then (if (l1_1.length : Int) ≤ 4 then ((spec_l2Vols.f k a0 a1_0 l1_1).bind fun t461 => (some t461)) else (some false)) else (some false))) = some r := by rw [if_pos rfl] at H; exact H
  clear H
  have H := H1
  clear H1
  replace H := Option.bind_eq_some_iff.mp H
  obtain ⟨t460, A50, H⟩ := H
  replace H : (if t460 = true then (if (l1_1.length : Int) ≤ 4 then ((spec_l2Vols.f k a0 a1_0 l1_1).bind fun t461 => (some t461)) else (some false)) else (some false)) = some r := H
  have A5 := Az.mk A50
  clear A50
  by_cases c6 : t460 = true
  ·subst c6
   have H1 : (if (l1_1.length : Int) ≤ 4 then ((spec_l2Vols.f k a0 a1_0 l1_1).bind fun t461 => (some t461)) else (some false)) = some r := by rw [if_pos rfl] at H; exact H
   clear H
   have H := H1
   clear H1
   by_cases c7 : (l1_1.length : Int) ≤ 4
   ·rw [if_pos c7] at H
    have c7b0 : decide ((l1_1.length : Int) ≤ 4) = true := decide_eq_true c7
    have c7b1 : decide (l1_1.length ≤ 4) = true := decide_eq_true (by omega)
    clear c7
    replace H := Option.bind_eq_some_iff.mp H
    obtain ⟨t461, A80, H⟩ := H
    replace H : (some t461) = some r := H
    have A8 := Az.mk A80
    clear A80
    obtain rfl := Option.some.inj H
    go_enter Try.func36, Try.ntmps36
    go_wp2_with (first | ((with_reducible refine zqg (N := 3) rfl ?_); (try (refine gate_guard (by rfl) ?_; dsimp only)); refine zqb ?hg (N := 3) ?hd (cs := #[.int .i64 a1_0, .slice A1_1 l1_1.length c1_1]) (t := 57) ?hr ?_; (case hd => rfl); (case hg => rfl); (case hr => first | (go_simp; done) | (go_simp; rfl)); intro gb458 hg w9 hbox hb; have n0_ := Az.mk (below_step (by repeat (first | (with_reducible first | exact HB.out | apply zq2 | apply zq1 | apply zqd) | exact HB.out)) hb); have n1_ := Az.mk (hbox); have n2_ := Az.mk ((by rw [hg]; exact (below_size (by repeat (first | (with_reducible first | exact HB.out | apply zq2 | apply zq1 | apply zqd) | exact HB.out))) : w.heap.size ≤ gb458)); have n3_ := Az.mk ((by rw [hg]; exact (below_size (by repeat (first | (with_reducible first | exact HB.out | apply zq2 | apply zq1 | apply zqd) | exact HB.out))) : w.heap.size ≤ gb458)); clear HB; have HB := n0_; have BK458 := n1_; have GW458 := n2_; have GE458 := n3_; clear n0_ n1_ n2_ n3_; clear hb hbox hg) | ((with_reducible refine gate_callee (f := 53) rfl ?_); refine zq9 (some 6) rfl rfl Try.func53 (by kernel_rfl) rfl #[.int .i64 a0] rfl (by (try simp only [List.map_toArray, List.map_cons, List.map_nil]); first | done | rfl | (simp only [List.length_drop, List.length_take]; rfl)) ?_; (with_reducible refine (spec_l2Disks.calls a0 true _ A3.out).mono ?_); rintro e w' ⟨rfl, ⟨nd, rfl⟩⟩; refine ⟨_, rfl, ?_⟩; have hcz10_0 : w9.cell? ⟨gb458, 0, none⟩ = some (.int .i64 a1_0) := (zq4 BK458.out 0).trans rfl; have hcz10_1 : w9.cell? ⟨gb458, 1, none⟩ = some (.slice A1_1 l1_1.length c1_1) := (zq4 BK458.out 1).trans rfl; have hfz10_0 := zq5 BK458.out 0; have hfz10_1 := zq5 BK458.out 1) | (go_at_call 75; (with_reducible refine (spec_l6In.calls a1_0 0 100000 true _ A5.out).mono ?_); rintro e w' ⟨rfl, ⟨nd, rfl⟩⟩) | (go_at_call 76; (with_reducible refine (spec_l2Vols.calls k a0 a1_0 _ _ l1_1 t461 _ ?side1 ?side2 A8.out).mono ?_); (case side1 => repeat (first | exact (Kd.C_below HR1_1.out (by repeat (first | (with_reducible first | exact HB.out | apply zq2 | apply zq1 | apply zqd | refine zq3 ?_ GE458.out) | exact HB.out))) | (with_reducible refine Kd.C_alloc ?_ _) | (with_reducible refine Kd.C_drewN ?_ _) | (with_reducible refine Kd.C_drew ?_))); (case side2 => exact HC1_1.out); rintro e w11 ⟨rfl, hb⟩; have n0_ := Az.mk (blk_below (g := gb458) (o := .cells #[.int .i64 a1_0, .slice A1_1 l1_1.length c1_1] 57 (0, 0)) (by (with_reducible repeat (first | refine zq6 ?_ _ | refine zq8 ?_ | refine zq7 ?_ _)); exact BK458.out) hb); have n1_ := Az.mk (below_step (by repeat (first | (with_reducible first | exact HB.out | apply zq2 | apply zq1 | apply zqd | refine zq3 ?_ GE458.out) | exact HB.out)) hb); clear BK458; clear HB; have BK458 := n0_; have HB := n1_; clear n0_ n1_; (try clear hb); (try clear hb2); (try clear hk); (try clear hi)))
    go_ret
    exact ⟨by first | rfl | (simp [errW_none, errW_some] <;> rfl) | (simp [*, errW_none, errW_some] <;> rfl), by repeat (first | (with_reducible first | exact HB.out | apply zq2 | apply zq1 | apply zqd | refine zq3 ?_ GE458.out) | exact HB.out)⟩
   ·rw [if_neg c7] at H
    have c7b0 : decide ((l1_1.length : Int) ≤ 4) = false := decide_eq_false c7
    have c7b1 : decide (l1_1.length ≤ 4) = false := decide_eq_false (by omega)
    clear c7
    obtain rfl := Option.some.inj H
    go_enter Try.func36, Try.ntmps36
    go_wp2_with (first | ((with_reducible refine zqg (N := 3) rfl ?_); (try (refine gate_guard (by rfl) ?_; dsimp only)); refine zqb ?hg (N := 3) ?hd (cs := #[.int .i64 a1_0, .slice A1_1 l1_1.length c1_1]) (t := 57) ?hr ?_; (case hd => rfl); (case hg => rfl); (case hr => first | (go_simp; done) | (go_simp; rfl)); intro gb458 hg w12 hbox hb; have n0_ := Az.mk (below_step (by repeat (first | (with_reducible first | exact HB.out | apply zq2 | apply zq1 | apply zqd) | exact HB.out)) hb); have n1_ := Az.mk (hbox); have n2_ := Az.mk ((by rw [hg]; exact (below_size (by repeat (first | (with_reducible first | exact HB.out | apply zq2 | apply zq1 | apply zqd) | exact HB.out))) : w.heap.size ≤ gb458)); have n3_ := Az.mk ((by rw [hg]; exact (below_size (by repeat (first | (with_reducible first | exact HB.out | apply zq2 | apply zq1 | apply zqd) | exact HB.out))) : w.heap.size ≤ gb458)); clear HB; have HB := n0_; have BK458 := n1_; have GW458 := n2_; have GE458 := n3_; clear n0_ n1_ n2_ n3_; clear hb hbox hg) | ((with_reducible refine gate_callee (f := 53) rfl ?_); refine zq9 (some 6) rfl rfl Try.func53 (by kernel_rfl) rfl #[.int .i64 a0] rfl (by (try simp only [List.map_toArray, List.map_cons, List.map_nil]); first | done | rfl | (simp only [List.length_drop, List.length_take]; rfl)) ?_; (with_reducible refine (spec_l2Disks.calls a0 true _ A3.out).mono ?_); rintro e w' ⟨rfl, ⟨nd, rfl⟩⟩; refine ⟨_, rfl, ?_⟩; have hcz13_0 : w12.cell? ⟨gb458, 0, none⟩ = some (.int .i64 a1_0) := (zq4 BK458.out 0).trans rfl; have hcz13_1 : w12.cell? ⟨gb458, 1, none⟩ = some (.slice A1_1 l1_1.length c1_1) := (zq4 BK458.out 1).trans rfl; have hfz13_0 := zq5 BK458.out 0; have hfz13_1 := zq5 BK458.out 1) | (go_at_call 75; (with_reducible refine (spec_l6In.calls a1_0 0 100000 true _ A5.out).mono ?_); rintro e w' ⟨rfl, ⟨nd, rfl⟩⟩))
    go_ret
    exact ⟨by first | rfl | (simp [errW_none, errW_some] <;> rfl) | (simp [*, errW_none, errW_some] <;> rfl), by repeat (first | (with_reducible first | exact HB.out | apply zq2 | apply zq1 | apply zqd | refine zq3 ?_ GE458.out) | exact HB.out)⟩
  ·replace c6 := Bool.eq_false_iff.mpr c6
   subst c6
   have H1 : (some false) = some r := by rw [if_neg (show ¬ (false = true) by decide)] at H; exact H
   clear H
   have H := H1
   clear H1
   obtain rfl := Option.some.inj H
   go_enter Try.func36, Try.ntmps36
   go_wp2_with (first | ((with_reducible refine zqg (N := 3) rfl ?_); (try (refine gate_guard (by rfl) ?_; dsimp only)); refine zqb ?hg (N := 3) ?hd (cs := #[.int .i64 a1_0, .slice A1_1 l1_1.length c1_1]) (t := 57) ?hr ?_; (case hd => rfl); (case hg => rfl); (case hr => first | (go_simp; done) | (go_simp; rfl)); intro gb458 hg w14 hbox hb; have n0_ := Az.mk (below_step (by repeat (first | (with_reducible first | exact HB.out | apply zq2 | apply zq1 | apply zqd) | exact HB.out)) hb); have n1_ := Az.mk (hbox); have n2_ := Az.mk ((by rw [hg]; exact (below_size (by repeat (first | (with_reducible first | exact HB.out | apply zq2 | apply zq1 | apply zqd) | exact HB.out))) : w.heap.size ≤ gb458)); have n3_ := Az.mk ((by rw [hg]; exact (below_size (by repeat (first | (with_reducible first | exact HB.out | apply zq2 | apply zq1 | apply zqd) | exact HB.out))) : w.heap.size ≤ gb458)); clear HB; have HB := n0_; have BK458 := n1_; have GW458 := n2_; have GE458 := n3_; clear n0_ n1_ n2_ n3_; clear hb hbox hg) | ((with_reducible refine gate_callee (f := 53) rfl ?_); refine zq9 (some 6) rfl rfl Try.func53 (by kernel_rfl) rfl #[.int .i64 a0] rfl (by (try simp only [List.map_toArray, List.map_cons, List.map_nil]); first | done | rfl | (simp only [List.length_drop, List.length_take]; rfl)) ?_; (with_reducible refine (spec_l2Disks.calls a0 true _ A3.out).mono ?_); rintro e w' ⟨rfl, ⟨nd, rfl⟩⟩; refine ⟨_, rfl, ?_⟩; have hcz15_0 : w14.cell? ⟨gb458, 0, none⟩ = some (.int .i64 a1_0) := (zq4 BK458.out 0).trans rfl; have hcz15_1 : w14.cell? ⟨gb458, 1, none⟩ = some (.slice A1_1 l1_1.length c1_1) := (zq4 BK458.out 1).trans rfl; have hfz15_0 := zq5 BK458.out 0; have hfz15_1 := zq5 BK458.out 1) | (go_at_call 75; (with_reducible refine (spec_l6In.calls a1_0 0 100000 false _ A5.out).mono ?_); rintro e w' ⟨rfl, ⟨nd, rfl⟩⟩))
   go_ret
   exact ⟨by first | rfl | (simp [errW_none, errW_some] <;> rfl) | (simp [*, errW_none, errW_some] <;> rfl), by repeat (first | (with_reducible first | exact HB.out | apply zq2 | apply zq1 | apply zqd | refine zq3 ?_ GE458.out) | exact HB.out)⟩
 ·replace c4 := Bool.eq_false_iff.mpr c4
  subst c4
  have H1 : (some false) = some r := by rw [if_neg (show ¬ (false = true) by decide)] at H; exact H
  clear H
  have H := H1
  clear H1
  obtain rfl := Option.some.inj H
  go_enter Try.func36, Try.ntmps36
  go_wp2_with (first | ((with_reducible refine zqg (N := 3) rfl ?_); (try (refine gate_guard (by rfl) ?_; dsimp only)); refine zqb ?hg (N := 3) ?hd (cs := #[.int .i64 a1_0, .slice A1_1 l1_1.length c1_1]) (t := 57) ?hr ?_; (case hd => rfl); (case hg => rfl); (case hr => first | (go_simp; done) | (go_simp; rfl)); intro gb458 hg w16 hbox hb; have n0_ := Az.mk (below_step (by repeat (first | (with_reducible first | exact HB.out | apply zq2 | apply zq1 | apply zqd) | exact HB.out)) hb); have n1_ := Az.mk (hbox); have n2_ := Az.mk ((by rw [hg]; exact (below_size (by repeat (first | (with_reducible first | exact HB.out | apply zq2 | apply zq1 | apply zqd) | exact HB.out))) : w.heap.size ≤ gb458)); have n3_ := Az.mk ((by rw [hg]; exact (below_size (by repeat (first | (with_reducible first | exact HB.out | apply zq2 | apply zq1 | apply zqd) | exact HB.out))) : w.heap.size ≤ gb458)); clear HB; have HB := n0_; have BK458 := n1_; have GW458 := n2_; have GE458 := n3_; clear n0_ n1_ n2_ n3_; clear hb hbox hg) | ((with_reducible refine gate_callee (f := 53) rfl ?_); refine zq9 (some 6) rfl rfl Try.func53 (by kernel_rfl) rfl #[.int .i64 a0] rfl (by (try simp only [List.map_toArray, List.map_cons, List.map_nil]); first | done | rfl | (simp only [List.length_drop, List.length_take]; rfl)) ?_; (with_reducible refine (spec_l2Disks.calls a0 false _ A3.out).mono ?_); rintro e w' ⟨rfl, ⟨nd, rfl⟩⟩; refine ⟨_, rfl, ?_⟩))
  go_ret
  exact ⟨by first | rfl | (simp [errW_none, errW_some] <;> rfl) | (simp [*, errW_none, errW_some] <;> rfl), by repeat (first | (with_reducible first | exact HB.out | apply zq2 | apply zq1 | apply zqd | refine zq3 ?_ GE458.out) | exact HB.out)⟩
def laws_toPtrS.l0 : Nat → List (S24) → List (S29) → Int → Option ((List (S29)))
 | 0, _, _, _ => none
 | k + 1, x0, x3, x4 => if x4 < (x0.length : Int) then (if 0 ≤ x4 then ((laws_toPtr.f k ((rd_T24 x0 x4).f0) ((rd_T24 x0 x4).f1) ((rd_T24 x0 x4).f2)).bind fun bt466 => (if x4 < (x3.length : Int) then (laws_toPtrS.l0 k x0 (x3.set (x4 : Int).toNat (⟨bt466.1, bt466.2.1, bt466.2.2⟩ : S29)) (wrap64 (x4 + 1))) else (none))) else (none)) else (some x3)
def laws_toPtrS.f (k : Nat) (l0 : List (S24)) : Option ((List (S29))) := if 0 ≤ (l0.length : Int) then (if ((l0.length : Int) : Int).toNat ≤ 7036874417766 then (laws_toPtrS.l0 k l0 (List.replicate ((l0.length : Int) : Int).toNat z29) 0) else (none)) else (none)
set_option maxHeartbeats 8000000 in
set_option maxRecDepth 100000 in
theorem laws_toPtrS.calls (k : Nat) (A0 : Option Addr) (c0 : Nat) (l0 : List (S24)) (r : List (S29)) (w : World) (hr0 : Kd.C k24 w A0 l0.length l0) (hc0 : l0.length ≤ c0) (h : laws_toPtrS.f k l0 = some r) :
  Calls Try.prog 121 #[.slice A0 l0.length c0] w fun e w' => ∃ v0_ : Value, e = .returned (v0_) ∧ Kd.S k29 29 w' w.heap.size (fun _ => True) v0_ r ∧ Below w.heap.size w w' := by
 have hu24 := Try.underlying24
 have hu29 := Try.underlying29
 have HR0 := Az.mk hr0
 have HC0 := Az.mk hc0
 clear hr0 hc0
 have HB := Az.mk (Below.refl w.heap.size w)
 have H : (if 0 ≤ (l0.length : Int) then (if ((l0.length : Int) : Int).toNat ≤ 7036874417766 then (laws_toPtrS.l0 k l0 (List.replicate ((l0.length : Int) : Int).toNat z29) 0) else (none)) else (none)) = some r := h
 clear h
 by_cases c2 : 0 ≤ (l0.length : Int)
 ·rw [if_pos c2] at H
  have c2b0 := eq_true c2
  have c2b1 : decide (0 ≤ (l0.length : Int)) = true := decide_eq_true c2
  clear c2
  by_cases c3 : ((l0.length : Int) : Int).toNat ≤ 7036874417766
  ·rw [if_pos c3] at H
   have c3b0 := eq_true c3
   have c3b1 : decide (((l0.length : Int) : Int).toNat ≤ 7036874417766) = true := decide_eq_true c3
   clear c3
   obtain ⟨y462, hy462⟩ : ∃ y_ : List (S29), y_ = (List.replicate ((l0.length : Int) : Int).toNat z29) := ⟨_, rfl⟩
   replace H : (laws_toPtrS.l0 k l0 y462 0) = some r := by first | (rw [hy462]; with_reducible exact H) | (have H2_ := (Option.bind_some _ _).symm.trans H; rw [hy462]; with_reducible exact H2_) | (have H2_ := (Option.bind_some _ _).symm.trans H; with_reducible exact H2_) | with_reducible exact H | (rw [hy462]; exact H) | exact H
   have Ny462 := Az.mk hy462
   clear hy462
   have H' := Az.mk H
   clear H
   go_enter Try.func121, Try.ntmps121
   go_wp2_with (first | ((with_reducible refine zqg (N := 7) rfl ?_); refine Kd.S_make k29 _ 29 rfl (N := 7) rfl 63 _ _ rfl (l0.length : Int) rfl rfl Try.underlying63 (.agg #[(.int .i64 0), (.int .i64 0), (.slice none 0 0)]) 40 info29 rfl (by decide) (by omega) z29 (ok := fun _ => True) (okp := fun _ => True) (k29_mkM _ _ _ z29 (Kd.R_nil _ _ _ _ _)) (fun _ hk => hk) trivial (of_decide_eq_true (by first | (with_reducible assumption) | assumption)) (Nat.le_trans (Nat.mul_le_mul_right _ (of_decide_eq_true (by first | (with_reducible assumption) | assumption) : (l0.length : Int).toNat ≤ 7036874417766)) (by omega)) (Below.refl _ _) (Nat.le_refl _) ?_; intro v463 w4 ho5 hb hg_ hnew_; clear hg_ hnew_; (first | rw [← Ny462.out] at ho5 | (simp only [Int.reduceToNat] at ho5; rw [← Ny462.out] at ho5)); have n0_ := Az.mk (Kd.S_lower ho5 (below_size (by repeat (first | (with_reducible first | exact HB.out | apply zq2 | apply zq1 | apply zqd) | exact HB.out)))); have n1_ := Az.mk (below_step (by repeat (first | (with_reducible first | exact HB.out | apply zq2 | apply zq1 | apply zqd) | exact HB.out)) hb); clear HB; have HO464 := n0_; have HB := n1_; clear n0_ n1_; clear hb ho5))
   go_loopg [4] k (fun kq v4 w' => ∃ (x3_1 : List (S29)) (x4_1 : Int), v4 = .int .i64 x4_1 ∧ Az (laws_toPtrS.l0 kq l0 x3_1 x4_1 = some r) ∧ Az (kq ≤ k) ∧ Az (Kd.S k29 29 w' w.heap.size (fun _ => True) v463 x3_1) ∧ Az (Below w.heap.size w w'))
   case atStart => exact ⟨(y462), (0), (by first | rfl | (simp; done) | (simp [*]; done)), H', ⟨Nat.le_refl _⟩, ⟨by (with_reducible repeat (first | apply Kd.S_alloc | apply Kd.S_drewN | apply Kd.S_drew)); exact HO464.out⟩, ⟨by repeat (first | (with_reducible first | exact HB.out | apply zq2 | apply zq1 | apply zqd) | exact HB.out)⟩⟩
   case round =>
    clear H'
    try clear c1
    try clear c2
    try clear c2b0
    try clear c2b1
    try clear p2
    try clear c3
    try clear c3b0
    try clear c3b1
    obtain ⟨x3_1, x4_1, rfl, HA, HK1, HO_3, HB⟩ := hrel
    cases gk with
    | zero => exact absurd HA.out (by simp [laws_toPtrS.l0])
    | succ k1 =>
     have H := HA.out
     clear HA
     simp only [laws_toPtrS.l0] at H
     by_cases c6 : x4_1 < (l0.length : Int)
     ·rw [if_pos c6] at H
      have c6b0 : decide (x4_1 < (l0.length : Int)) = true := decide_eq_true c6
      clear c6
      by_cases c7 : 0 ≤ x4_1
      ·rw [if_pos c7] at H
       have c7b0 : decide (0 ≤ x4_1) = true := decide_eq_true c7
       clear c7
       replace H := Option.bind_eq_some_iff.mp H
       obtain ⟨⟨t466, t467, t468⟩, A80, H⟩ := H
       replace H : (if x4_1 < (x3_1.length : Int) then (laws_toPtrS.l0 k1 l0 (x3_1.set (x4_1 : Int).toNat (⟨t466, t467, t468⟩ : S29)) (wrap64 (x4_1 + 1))) else (none)) = some r := H
       have A8 := Az.mk A80
       clear A80
       by_cases c9 : x4_1 < (x3_1.length : Int)
       ·rw [if_pos c9] at H
        have c9b0 : decide (x4_1 < (x3_1.length : Int)) = true := decide_eq_true c9
        clear c9
        obtain ⟨y471, hy471⟩ : ∃ y_ : List (S29), y_ = (x3_1.set (x4_1 : Int).toNat (⟨t466, t467, t468⟩ : S29)) := ⟨_, rfl⟩
        replace H : (laws_toPtrS.l0 k1 l0 y471 (wrap64 (x4_1 + 1))) = some r := by first | (rw [hy471]; with_reducible exact H) | (have H2_ := (Option.bind_some _ _).symm.trans H; rw [hy471]; with_reducible exact H2_) | (have H2_ := (Option.bind_some _ _).symm.trans H; with_reducible exact H2_) | with_reducible exact H | (rw [hy471]; exact H) | exact H
        have Ny471 := Az.mk hy471
        clear hy471
        have H' := Az.mk H
        clear H
        have p465 : 0 ≤ (x4_1 : Int) := of_decide_eq_true (by first | (with_reducible assumption) | assumption)
        have q465 : x4_1 < (l0.length : Int) := of_decide_eq_true (by first | (with_reducible assumption) | assumption)
        obtain ⟨ad465, A465_2, c465_2, e465, hx465_0, hx465_1, hx465_2, hl465_2, hi465_2⟩ := at_T24 HR0.out x4_1 p465 q465
        cases e465
        replace hx465_0 := (HB.out.cell (World.block_lt_of_cell? w _ hx465_0)).trans hx465_0
        replace hx465_1 := (HB.out.cell (World.block_lt_of_cell? w _ hx465_1)).trans hx465_1
        replace hx465_2 := (HB.out.cell (World.block_lt_of_cell? w _ hx465_2)).trans hx465_2
        have HR465_2 := Az.mk hi465_2
        have HC465_2 := Az.mk hl465_2
        clear hi465_2 hl465_2
        replace p465 := eq_true p465
        replace q465 := eq_true q465
        go_wp2_with (first | ((with_reducible refine gate_callee (f := 19) rfl ?_); refine zq9 (some 20) rfl rfl Try.func19 (by kernel_rfl) rfl #[.agg #[.int .i64 ((rd_T24 l0 x4_1).f0), .int .i64 ((rd_T24 l0 x4_1).f1), .slice A465_2 ((rd_T24 l0 x4_1).f2).length c465_2]] rfl (by (try simp only [List.map_toArray, List.map_cons, List.map_nil]); first | done | rfl | (simp only [List.length_drop, List.length_take]; rfl)) ?_; (with_reducible refine (laws_toPtr.calls k1 ((rd_T24 l0 x4_1).f0) ((rd_T24 l0 x4_1).f1) _ _ ((rd_T24 l0 x4_1).f2) t466 t467 t468 _ ?side1 ?side2 A8.out).mono ?_); (case side1 => repeat (first | exact (Kd.C_below HR465_2.out HB.out) | (with_reducible refine Kd.C_alloc ?_ _) | (with_reducible refine Kd.C_drewN ?_ _) | (with_reducible refine Kd.C_drew ?_))); (case side2 => exact HC465_2.out); rintro e w11 ⟨v469, rfl, ho0, hb⟩; refine ⟨_, rfl, ?_⟩; have n0_ := Az.mk (Kd.S_elder' (by (with_reducible repeat (first | apply Kd.S_alloc | apply Kd.S_drewN | apply Kd.S_drew)); exact HO_3.out) (Kd.R_base ho0) hb); have n1_ := Az.mk (Kd.R_lower ho0 (below_size (by repeat (first | (with_reducible first | exact HB.out | apply zq2 | apply zq1 | apply zqd) | exact HB.out)))); have n2_ := Az.mk (below_step (by repeat (first | (with_reducible first | exact HB.out | apply zq2 | apply zq1 | apply zqd) | exact HB.out)) hb); clear HO_3; clear HB; have HO_3 := n0_; have HO470 := n1_; have HB := n2_; clear n0_ n1_ n2_; (try clear hb); (try clear hb2); (try clear hk); (try clear hi); (try clear ho0); have p10 : 0 ≤ (x4_1 : Int) := of_decide_eq_true (by first | (with_reducible assumption) | assumption); have q10 : (x4_1 : Int) < ((x3_1.length : Int) : Int) := of_decide_eq_true (by first | (with_reducible assumption) | assumption); obtain ⟨go10, co10, eo10, gb10, gl10, cl10, HG10⟩ := Kd.S_form HO_3.out (by omega); (first | cases eo10 | (injection eo10 with ea_ en_ ec_; (first | subst ea_ | (injection ea_ with ea_; subst ea_)); subst ec_; clear en_)); have GB10 := Az.mk gb10; have GG10 := Az.mk HG10; clear gb10 gl10 HG10; obtain ⟨_, ce10, hcl10, hM10, hcc10, hfr10, _, _⟩ := Kd.S_elem HO_3.out z29 (x4_1 : Int) p10 q10; obtain ⟨ve10_2, rfl, ge10_2⟩ := k29_openM hM10; have hx10_0 : w11.cell? ⟨go10, (x4_1 : Int).toNat * 3, none⟩ = some (.int .i64 ((rd_T29 x3_1 x4_1).f0)) := hcc10 0 _ rfl; have hx10_1 : w11.cell? ⟨go10, (x4_1 : Int).toNat * 3 + 1, none⟩ = some (.int .i64 ((rd_T29 x3_1 x4_1).f1)) := hcc10 1 _ rfl; have hx10_2 : w11.cell? ⟨go10, (x4_1 : Int).toNat * 3 + 2, none⟩ = some (ve10_2) := hcc10 2 _ rfl; have hf10_0 : w11.frozen? ⟨go10, (x4_1 : Int).toNat * 3, none⟩ = false := hfr10 0; have hf10_1 : w11.frozen? ⟨go10, (x4_1 : Int).toNat * 3 + 1, none⟩ = false := hfr10 1; have hf10_2 : w11.frozen? ⟨go10, (x4_1 : Int).toNat * 3 + 2, none⟩ = false := hfr10 2; clear hcl10 hcc10 hfr10 hM10; replace p10 := eq_true p10; replace q10 := eq_true q10; have n_ := Az.mk (Kd.S_mono (ok' := (fun k_ => some k_ ≠ (v469 : Value).ownBlock)) HO_3.out (fun k_ hk => hk.2)); clear HO_3; have HO_3 := n_; clear n_; have HX12 := Az.mk (show Kd.S k29 29 w11 w.heap.size (fun k_ => ((fun _ => True)) k_ ∧ ¬ ((fun k_ => some k_ = (v469 : Value).ownBlock)) k_) (.slice (some ⟨go10, 0, none⟩) x3_1.length co10) x3_1 from (by (with_reducible repeat (first | apply Kd.S_alloc | apply Kd.S_drewN | apply Kd.S_drew)); exact Kd.S_mono HO_3.out (fun k_ hk => ⟨trivial, fun e_ => hk e_⟩))); obtain ⟨oki12, ce12, hcl12, hM12, hcc12, hfr12, hoki12, hH12⟩ := Kd.S_elem HX12.out z29 (x4_1 : Int) (of_decide_eq_true (by first | (with_reducible assumption) | assumption)) (by have h_ : (x4_1 : Int) < ((x3_1.length : Int) : Int) := of_decide_eq_true (by first | (with_reducible assumption) | assumption); first | exact h_ | (have e_ := (Kd.S_reads' HO_3.out).1; omega) | simpa using h_); obtain ⟨ve12_2, rfl, ge12_2⟩ := k29_openM hM12; have HP12 := Kd.S_seg hH12 (of_decide_eq_true (by first | (with_reducible assumption) | assumption)) (by have h_ : (x4_1 : Int) < ((x3_1.length : Int) : Int) := of_decide_eq_true (by first | (with_reducible assumption) | assumption); first | exact h_ | (have e_ := (Kd.S_reads' HO_3.out).1; omega) | simpa using h_) (seg := [.int .i64 t466, .int .i64 t467, v469]) (j := 0) (show 3 ≤ 3 from by decide) (x' := (⟨t466, t467, t468⟩ : S29)) (k29_mkM _ _ _ (⟨t466, t467, t468⟩ : S29) (Kd.R_mono (Kd.R_tight rfl (Kd.R_mono (ok' := fun k_ => ((fun _ => True)) k_ ∧ k_ ≠ go10) (Kd.R_apart' (HO470.out) (Kd.S_typed HO_3.out) (by decide)) (fun k_ hk => ⟨trivial, fun e_ => (hk.2) (by rw [e_]; rfl)⟩))) (fun _ h_ => Or.inr (h_)))) (fun _ hk => hk) (fun k_ hk_ => ((Kd.R_mono (ok' := fun k_ => ((fun _ => True)) k_ ∧ k_ ≠ go10) (Kd.R_apart' (HO470.out) (Kd.S_typed HO_3.out) (by decide)) (fun k_ hk => ⟨trivial, fun e_ => (hk.2) (by rw [e_]; rfl)⟩))).1 k_ hk_.symm); have hx12_0 := hcc12 0 _ rfl; (try simp only [show (k29).sz = 3 from rfl, Nat.mul_one, Nat.add_zero] at hx12_0); have hf12_0 := hfr12 0; (try simp only [show (k29).sz = 3 from rfl, Nat.mul_one, Nat.add_zero] at hf12_0); have hx12_1 := hcc12 1 _ rfl; (try simp only [show (k29).sz = 3 from rfl, Nat.mul_one, Nat.add_zero] at hx12_1); have hf12_1 := hfr12 1; (try simp only [show (k29).sz = 3 from rfl, Nat.mul_one, Nat.add_zero] at hf12_1); have hx12_2 := hcc12 2 _ rfl; (try simp only [show (k29).sz = 3 from rfl, Nat.mul_one, Nat.add_zero] at hx12_2); have hf12_2 := hfr12 2; (try simp only [show (k29).sz = 3 from rfl, Nat.mul_one, Nat.add_zero] at hf12_2); clear hcl12 hcc12 hfr12 hM12 hoki12 hH12) | ((with_reducible refine gate_store (t := 29) (p := 21) rfl ?_); have hst_v469 : ∀ (W_ : World) (a_ : Addr) (m_ : Mode), (store a_ v469 m_).run Try.prog W_ = stored Try.prog W_ a_ v469 m_ := fun W_ a_ m_ => run_store Try.prog W_ a_ _ m_ (by obtain ⟨A_, c_, e_⟩ := Kd.R_slice HO470.out; rw [e_]; rfl); refine store_event (t := 29) (p := 21) (v := ?vo_w13) (w1 := (((w11.setCell ⟨go10, (x4_1 : Int).toNat * 3, none⟩ (.int .i64 t466)).setCell ⟨go10, (x4_1 : Int).toNat * 3 + 1, none⟩ (.int .i64 t467)).setCell ⟨go10, (x4_1 : Int).toNat * 3 + 2, none⟩ (v469))) ?hg ?ho ?hn ?hr ?_; (case ho => rfl); (case hg => rfl); (case hn => rfl); (case hr => first | (go_simp; done) | (go_simp; rfl)); intro w13 hw; have hg : w11.grownBy w13 (some go10) := (by rw [hw]; exact HP12.2); have hp_ : Kd.S k29 29 w13 w.heap.size (fun _ => True) (.slice (some ⟨go10, 0, none⟩) x3_1.length co10) y471 := (by rw [hw, Ny471.out]; exact HP12.1); clear HP12; have n0_ := Az.mk (hp_); have n1_ := Az.mk ((by rw [hw]; exact zq3 (zq3 (zq3 (HB.out) GB10.out) GB10.out) GB10.out : Below w.heap.size w w13)); clear HO_3; clear HB; clear HO470; have HO_3 := n0_; have HB := n1_; clear n0_ n1_; clear hg hw hp_))
        go_roundg k1
        case measure => have := HK1.out; omega
        case rel => exact ⟨(y471), (wrap64 (x4_1 + 1)), (by first | rfl | (simp; done) | (simp [*]; done)), H', ⟨by have := HK1.out; omega⟩, ⟨by (with_reducible repeat (first | apply Kd.S_alloc | apply Kd.S_drewN | apply Kd.S_drew)); exact HO_3.out⟩, ⟨by repeat (first | (with_reducible first | exact HB.out | apply zq2 | apply zq1 | apply zqd) | exact HB.out)⟩⟩
       ·rw [if_neg c9] at H
        exact absurd H (by simp)
      ·rw [if_neg c7] at H
       exact absurd H (by simp)
     ·rw [if_neg c6] at H
      have c6b0 : decide (x4_1 < (l0.length : Int)) = false := decide_eq_false c6
      clear c6
      obtain rfl := Option.some.inj H
      go_wp2
      go_ret
      exact ⟨_, by first | rfl | (simp [errW_none, errW_some] <;> rfl) | (simp [*, errW_none, errW_some] <;> rfl), by (with_reducible repeat (first | apply Kd.S_alloc | apply Kd.S_drewN | apply Kd.S_drew)); exact HO_3.out, by repeat (first | (with_reducible first | exact HB.out | apply zq2 | apply zq1 | apply zqd) | exact HB.out)⟩
  ·rw [if_neg c3] at H
   exact absurd H (by simp)
 ·rw [if_neg c2] at H
  exact absurd H (by simp)
def laws_toVol.f (k : Nat) (a0_0 : ByteArray) (l0_1 : List (S24)) : Option (ByteArray × (List (S29))) := (laws_toPtrS.f k l0_1).bind fun t475 => (some (a0_0, t475))
set_option maxHeartbeats 8000000 in
set_option maxRecDepth 100000 in
theorem laws_toVol.calls (k : Nat) (a0_0 : ByteArray) (A0_1 : Option Addr) (c0_1 : Nat) (l0_1 : List (S24)) (r1 : ByteArray) (r2 : List (S29)) (w : World) (hr0_1 : Kd.C k24 w A0_1 l0_1.length l0_1) (hc0_1 : l0_1.length ≤ c0_1) (h : laws_toVol.f k a0_0 l0_1 = some (r1, r2)) :
  Calls Try.prog 100 #[.agg #[.string a0_0, .slice A0_1 l0_1.length c0_1]] w fun e w' => ∃ v1_ : Value, e = .returned (.agg #[.string r1, v1_]) ∧ Kd.S k29 29 w' w.heap.size (fun _ => True) v1_ r2 ∧ Below w.heap.size w w' := by
 have hu120 := Try.underlying120
 have hu65 := Try.underlying65
 have HR0_1 := Az.mk hr0_1
 have HC0_1 := Az.mk hc0_1
 clear hr0_1 hc0_1
 have HB := Az.mk (Below.refl w.heap.size w)
 have H : ((laws_toPtrS.f k l0_1).bind fun t475 => (some (a0_0, t475))) = some (r1, r2) := h
 clear h
 replace H := Option.bind_eq_some_iff.mp H
 obtain ⟨t475, A20, H⟩ := H
 replace H : (some (a0_0, t475)) = some (r1, r2) := H
 have A2 := Az.mk A20
 clear A20
 simp only [Option.some.injEq, Prod.mk.injEq] at H
 obtain ⟨rfl, rfl⟩ := H
 go_enter Try.func100, Try.ntmps100
 go_wp2_with (first | ((with_reducible refine zqg (N := 1) rfl ?_); refine zqb ?hg (N := 1) ?hd (cs := #[.string a0_0, .slice A0_1 l0_1.length c0_1]) (t := 120) ?hr ?_; (case hd => rfl); (case hg => rfl); (case hr => first | (go_simp; done) | (go_simp; rfl)); intro gb472 hg w3 hbox hb; have n0_ := Az.mk (below_step (by repeat (first | (with_reducible first | exact HB.out | apply zq2 | apply zq1 | apply zqd) | exact HB.out)) hb); have n1_ := Az.mk (hbox); have n2_ := Az.mk ((by rw [hg]; exact (below_size (by repeat (first | (with_reducible first | exact HB.out | apply zq2 | apply zq1 | apply zqd) | exact HB.out))) : w.heap.size ≤ gb472)); have n3_ := Az.mk ((by rw [hg]; exact (below_size (by repeat (first | (with_reducible first | exact HB.out | apply zq2 | apply zq1 | apply zqd) | exact HB.out))) : w.heap.size ≤ gb472)); clear HB; have HB := n0_; have BK472 := n1_; have GW472 := n2_; have GE472 := n3_; clear n0_ n1_ n2_ n3_; clear hb hbox hg) | ((with_reducible refine zqg (N := 2) rfl ?_); refine zqb ?hg (N := 2) ?hd (cs := #[.string (⟨#[]⟩ : ByteArray), .slice none 0 0]) (t := 65) ?hr ?_; (case hd => rfl); (case hg => rfl); (case hr => first | (go_simp; done) | (go_simp; rfl)); intro gb473 hg w4 hbox hb; have n0_ := Az.mk (blk_below (g := gb472) (o := .cells #[.string a0_0, .slice A0_1 l0_1.length c0_1] 120 (0, 0)) (by (with_reducible repeat (first | refine zq6 ?_ _ | refine zq8 ?_ | refine zq7 ?_ _)); exact BK472.out) hb); have n1_ := Az.mk (below_step (by repeat (first | (with_reducible first | exact HB.out | apply zq2 | apply zq1 | apply zqd | refine zq3 ?_ GE472.out) | exact HB.out)) hb); have n2_ := Az.mk (hbox); have n3_ := Az.mk ((by rw [hg]; exact (below_size (by repeat (first | (with_reducible first | exact HB.out | apply zq2 | apply zq1 | apply zqd | refine zq3 ?_ GE472.out) | exact HB.out))) : w.heap.size ≤ gb473)); have n4_ := Az.mk ((by rw [hg]; exact (below_size (by repeat (first | (with_reducible first | exact HB.out | apply zq2 | apply zq1 | apply zqd | refine zq3 ?_ GE472.out) | exact HB.out))) : w.heap.size ≤ gb473)); have n5_ := Az.mk ((by rw [hg]; exact Nat.ne_of_lt (blk_lt (g := gb472) (o := .cells #[.string a0_0, .slice A0_1 l0_1.length c0_1] 120 (0, 0)) (by (with_reducible repeat (first | refine zq6 ?_ _ | refine zq8 ?_ | refine zq7 ?_ _)); exact BK472.out)) : gb472 ≠ gb473)); have n6_ := Az.mk ((by rw [hg]; exact Nat.ne_of_gt (blk_lt (g := gb472) (o := .cells #[.string a0_0, .slice A0_1 l0_1.length c0_1] 120 (0, 0)) (by (with_reducible repeat (first | refine zq6 ?_ _ | refine zq8 ?_ | refine zq7 ?_ _)); exact BK472.out)) : gb473 ≠ gb472)); clear BK472; clear HB; have BK472 := n0_; have HB := n1_; have BK473 := n2_; have GW473 := n3_; have GE473 := n4_; have NB472_473 := n5_; have NB473_472 := n6_; clear n0_ n1_ n2_ n3_ n4_ n5_ n6_; clear hb hbox hg) | ((with_reducible refine zqg (N := 3) rfl ?_); refine zqb ?hg (N := 3) ?hd (cs := #[.string (⟨#[]⟩ : ByteArray), .slice none 0 0]) (t := 65) ?hr ?_; (case hd => rfl); (case hg => rfl); (case hr => first | (go_simp; done) | (go_simp; rfl)); intro gb474 hg w5 hbox hb; have n0_ := Az.mk (blk_below (g := gb472) (o := .cells #[.string a0_0, .slice A0_1 l0_1.length c0_1] 120 (0, 0)) (by (with_reducible repeat (first | refine zq6 ?_ _ | refine zq8 ?_ | refine zq7 ?_ _)); exact BK472.out) hb); have n1_ := Az.mk (blk_below (g := gb473) (o := .cells #[.string (⟨#[]⟩ : ByteArray), .slice none 0 0] 65 (0, 0)) (by (with_reducible repeat (first | refine zq6 ?_ _ | refine zq8 ?_ | refine zq7 ?_ _)); exact BK473.out) hb); have n2_ := Az.mk (below_step (by repeat (first | (with_reducible first | exact HB.out | apply zq2 | apply zq1 | apply zqd | refine zq3 ?_ GE472.out | refine zq3 ?_ GE473.out) | exact HB.out)) hb); have n3_ := Az.mk (hbox); have n4_ := Az.mk ((by rw [hg]; exact (below_size (by repeat (first | (with_reducible first | exact HB.out | apply zq2 | apply zq1 | apply zqd | refine zq3 ?_ GE472.out | refine zq3 ?_ GE473.out) | exact HB.out))) : w.heap.size ≤ gb474)); have n5_ := Az.mk ((by rw [hg]; exact (below_size (by repeat (first | (with_reducible first | exact HB.out | apply zq2 | apply zq1 | apply zqd | refine zq3 ?_ GE472.out | refine zq3 ?_ GE473.out) | exact HB.out))) : w.heap.size ≤ gb474)); have n6_ := Az.mk ((by rw [hg]; exact Nat.ne_of_lt (blk_lt (g := gb472) (o := .cells #[.string a0_0, .slice A0_1 l0_1.length c0_1] 120 (0, 0)) (by (with_reducible repeat (first | refine zq6 ?_ _ | refine zq8 ?_ | refine zq7 ?_ _)); exact BK472.out)) : gb472 ≠ gb474)); have n7_ := Az.mk ((by rw [hg]; exact Nat.ne_of_gt (blk_lt (g := gb472) (o := .cells #[.string a0_0, .slice A0_1 l0_1.length c0_1] 120 (0, 0)) (by (with_reducible repeat (first | refine zq6 ?_ _ | refine zq8 ?_ | refine zq7 ?_ _)); exact BK472.out)) : gb474 ≠ gb472)); have n8_ := Az.mk ((by rw [hg]; exact Nat.ne_of_lt (blk_lt (g := gb473) (o := .cells #[.string (⟨#[]⟩ : ByteArray), .slice none 0 0] 65 (0, 0)) (by (with_reducible repeat (first | refine zq6 ?_ _ | refine zq8 ?_ | refine zq7 ?_ _)); exact BK473.out)) : gb473 ≠ gb474)); have n9_ := Az.mk ((by rw [hg]; exact Nat.ne_of_gt (blk_lt (g := gb473) (o := .cells #[.string (⟨#[]⟩ : ByteArray), .slice none 0 0] 65 (0, 0)) (by (with_reducible repeat (first | refine zq6 ?_ _ | refine zq8 ?_ | refine zq7 ?_ _)); exact BK473.out)) : gb474 ≠ gb473)); clear BK472; clear BK473; clear HB; have BK472 := n0_; have BK473 := n1_; have HB := n2_; have BK474 := n3_; have GW474 := n4_; have GE474 := n5_; have NB472_474 := n6_; have NB474_472 := n7_; have NB473_474 := n8_; have NB474_473 := n9_; clear n0_ n1_ n2_ n3_ n4_ n5_ n6_ n7_ n8_ n9_; clear hb hbox hg; have hnb6 := NB472_473.out; have hnc6 := NB473_472.out; have hnb7 := NB472_474.out; have hnc7 := NB474_472.out; have hcz8_0 : w5.cell? ⟨gb472, 0, none⟩ = some (.string a0_0) := (zq4 BK472.out 0).trans rfl; have hcz8_1 : w5.cell? ⟨gb472, 1, none⟩ = some (.slice A0_1 l0_1.length c0_1) := (zq4 BK472.out 1).trans rfl; have hfz8_0 := zq5 BK472.out 0; have hfz8_1 := zq5 BK472.out 1; have hnb9 := NB474_473.out; have hnc9 := NB473_474.out; have hcz10_0 : w5.cell? ⟨gb474, 0, none⟩ = some (.string (⟨#[]⟩ : ByteArray)) := (zq4 BK474.out 0).trans rfl; have hcz10_1 : w5.cell? ⟨gb474, 1, none⟩ = some (.slice none 0 0) := (zq4 BK474.out 1).trans rfl; have hfz10_0 := zq5 BK474.out 0; have hfz10_1 := zq5 BK474.out 1) | ((with_reducible refine gate_callee (f := 121) rfl ?_); refine zq9 (some 9) rfl rfl Try.func121 (by kernel_rfl) rfl #[.slice A0_1 l0_1.length c0_1] rfl (by (try simp only [List.map_toArray, List.map_cons, List.map_nil]); first | done | rfl | (simp only [List.length_drop, List.length_take]; rfl)) ?_; (with_reducible refine (laws_toPtrS.calls k _ _ l0_1 t475 _ ?side1 ?side2 A2.out).mono ?_); (case side1 => exact Kd.C_below HR0_1.out (by repeat (first | (with_reducible first | exact HB.out | apply zq2 | apply zq1 | apply zqd | refine zq3 ?_ GE472.out | refine zq3 ?_ GE473.out | refine zq3 ?_ GE474.out) | exact HB.out))); (case side2 => exact HC0_1.out); rintro e w11 ⟨v476, rfl, ho0, hb⟩; refine ⟨_, rfl, ?_⟩; have n0_ := Az.mk (Kd.S_lower ho0 (below_size (by repeat (first | (with_reducible first | exact HB.out | apply zq2 | apply zq1 | apply zqd | refine zq3 ?_ GE472.out | refine zq3 ?_ GE473.out | refine zq3 ?_ GE474.out) | exact HB.out)))); have n1_ := Az.mk (blk_below (g := gb472) (o := .cells #[.string a0_0, .slice A0_1 l0_1.length c0_1] 120 (0, 0)) (by (with_reducible repeat (first | refine zq6 ?_ _ | refine zq8 ?_ | refine zq7 ?_ _)); refine blk_far ?_ NB472_474.out _; (with_reducible repeat (first | refine zq6 ?_ _ | refine zq8 ?_ | refine zq7 ?_ _)); exact BK472.out) hb); have n2_ := Az.mk (blk_below (g := gb473) (o := .cells #[.string (⟨#[]⟩ : ByteArray), .slice none 0 0] 65 (0, 0)) (by (with_reducible repeat (first | refine zq6 ?_ _ | refine zq8 ?_ | refine zq7 ?_ _)); refine blk_far ?_ NB473_474.out _; (with_reducible repeat (first | refine zq6 ?_ _ | refine zq8 ?_ | refine zq7 ?_ _)); exact BK473.out) hb); have n3_ := Az.mk (blk_below (g := gb474) (o := .cells #[.string a0_0, .slice none 0 0] 65 (0, 0)) (by (with_reducible repeat (first | refine zq6 ?_ _ | refine zq8 ?_ | refine zq7 ?_ _)); refine blk_put (cs := #[.string (⟨#[]⟩ : ByteArray), .slice none 0 0]) ?_ 0 _ rfl; (with_reducible repeat (first | refine zq6 ?_ _ | refine zq8 ?_ | refine zq7 ?_ _)); exact BK474.out) hb); have n4_ := Az.mk (below_step (by repeat (first | (with_reducible first | exact HB.out | apply zq2 | apply zq1 | apply zqd | refine zq3 ?_ GE472.out | refine zq3 ?_ GE473.out | refine zq3 ?_ GE474.out) | exact HB.out)) hb); clear BK472; clear BK473; clear BK474; clear HB; have HO477 := n0_; have BK472 := n1_; have BK473 := n2_; have BK474 := n3_; have HB := n4_; clear n0_ n1_ n2_ n3_ n4_; (try clear hb); (try clear hb2); (try clear hk); (try clear hi); (try clear ho0); obtain ⟨Ao12, co12, eo12⟩ := Kd.S_slice HO477.out; subst eo12; have hcz13_0 : w11.cell? ⟨gb474, 0, none⟩ = some (.string a0_0) := (zq4 BK474.out 0).trans rfl; have hcz13_1 : w11.cell? ⟨gb474, 1, none⟩ = some (.slice none 0 0) := (zq4 BK474.out 1).trans rfl; have hfz13_0 := zq5 BK474.out 0; have hfz13_1 := zq5 BK474.out 1; have hcz14_0 : w11.cell? ⟨gb473, 0, none⟩ = some (.string (⟨#[]⟩ : ByteArray)) := (zq4 BK473.out 0).trans rfl; have hcz14_1 : w11.cell? ⟨gb473, 1, none⟩ = some (.slice none 0 0) := (zq4 BK473.out 1).trans rfl; have hfz14_0 := zq5 BK473.out 0; have hfz14_1 := zq5 BK473.out 1))
 refine bodyPost_ret (results_cell_row rfl _ _ gb473 65 #[.string a0_0, .slice Ao12 t475.length co12] (0, 0) _ rfl (by (with_reducible repeat (first | refine zq6 ?_ _ | refine zq8 ?_ | refine zq7 ?_ _)); refine blk_put (cs := #[.string a0_0, .slice none 0 0]) ?_ 1 _ rfl; (with_reducible repeat (first | refine zq6 ?_ _ | refine zq8 ?_ | refine zq7 ?_ _)); refine blk_put (cs := #[.string (⟨#[]⟩ : ByteArray), .slice none 0 0]) ?_ 0 _ rfl; (with_reducible repeat (first | refine zq6 ?_ _ | refine zq8 ?_ | refine zq7 ?_ _)); refine blk_far ?_ NB473_474.out _; (with_reducible repeat (first | refine zq6 ?_ _ | refine zq8 ?_ | refine zq7 ?_ _)); exact BK473.out) Try.underlying65 rfl (by kernel_rfl)) rfl ?_
 exact ⟨_, by first | rfl | (simp [errW_none, errW_some] <;> rfl) | (simp [*, errW_none, errW_some] <;> rfl), by (with_reducible repeat (first | apply Kd.S_alloc | apply Kd.S_drewN | apply Kd.S_drew)); exact Kd.S_mono (Kd.S_far (p := ⟨gb473, 1, none⟩) (Kd.S_far (p := ⟨gb473, 0, none⟩) (Kd.S_far (p := ⟨gb474, 1, none⟩) (Kd.S_types (Kd.S_types HO477.out BK474.out (by decide)) BK473.out (by decide)) (fun _ hk => hk.1.2) (.slice Ao12 t475.length co12)) (fun _ hk => hk.2) (.string a0_0)) (fun _ hk => hk.2) (.slice Ao12 t475.length co12)) (fun _ hk => trivial), by repeat (first | (with_reducible first | exact HB.out | apply zq2 | apply zq1 | apply zqd | refine zq3 ?_ GE472.out | refine zq3 ?_ GE473.out | refine zq3 ?_ GE474.out) | exact HB.out)⟩
end Go.Proofs.Ytkoimmeghdbodaa.Print
namespace Go.Proofs.Ytkoimmeghdbodaa.Print
open Go.RowKit Go.Proofs.YtkoimmeghdbodaaW.PrintWords Go.Proofs.YtkoimmeghdbodaaW.PrintLast Go.Proofs.YtkoimmeghdbodaaW.PrintMore
attribute [local go_sem] max2_int min2_int max_two min_two max_three min_three max_four min_four   -- for this text's walks alone
set_option linter.unusedVariables false
set_option linter.unusedSimpArgs false
def laws_toVolS.l0 : Nat → List (S120) → List (S65) → Int → Option ((List (S65)))
 | 0, _, _, _ => none
 | k + 1, x0, x3, x4 => if x4 < (x0.length : Int) then (if 0 ≤ x4 then ((laws_toVol.f k ((rd_T120 x0 x4).f0) ((rd_T120 x0 x4).f1)).bind fun bt482 => (if x4 < (x3.length : Int) then (laws_toVolS.l0 k x0 (x3.set (x4 : Int).toNat (⟨bt482.1, bt482.2⟩ : S65)) (wrap64 (x4 + 1))) else (none))) else (none)) else (some x3)
def laws_toVolS.f (k : Nat) (l0 : List (S120)) : Option ((List (S65))) := if 0 ≤ (l0.length : Int) then (if ((l0.length : Int) : Int).toNat ≤ 7036874417766 then (laws_toVolS.l0 k l0 (List.replicate ((l0.length : Int) : Int).toNat z65) 0) else (none)) else (none)
set_option maxHeartbeats 8000000 in
set_option maxRecDepth 100000 in
theorem laws_toVolS.calls (k : Nat) (A0 : Option Addr) (c0 : Nat) (l0 : List (S120)) (r : List (S65)) (w : World) (hr0 : Kd.C k120 w A0 l0.length l0) (hc0 : l0.length ≤ c0) (h : laws_toVolS.f k l0 = some r) :
  Calls Try.prog 77 #[.slice A0 l0.length c0] w fun e w' => ∃ v0_ : Value, e = .returned (v0_) ∧ Kd.R k65 65 w' w.heap.size (fun _ => True) v0_ r ∧ Below w.heap.size w w' := by
 have hu120 := Try.underlying120
 have hu65 := Try.underlying65
 have HR0 := Az.mk hr0
 have HC0 := Az.mk hc0
 clear hr0 hc0
 have HB := Az.mk (Below.refl w.heap.size w)
 have H : (if 0 ≤ (l0.length : Int) then (if ((l0.length : Int) : Int).toNat ≤ 7036874417766 then (laws_toVolS.l0 k l0 (List.replicate ((l0.length : Int) : Int).toNat z65) 0) else (none)) else (none)) = some r := h
 clear h
 by_cases c2 : 0 ≤ (l0.length : Int)
 ·rw [if_pos c2] at H
  have c2b0 := eq_true c2
  have c2b1 : decide (0 ≤ (l0.length : Int)) = true := decide_eq_true c2
  clear c2
  by_cases c3 : ((l0.length : Int) : Int).toNat ≤ 7036874417766
  ·rw [if_pos c3] at H
   have c3b0 := eq_true c3
   have c3b1 : decide (((l0.length : Int) : Int).toNat ≤ 7036874417766) = true := decide_eq_true c3
   clear c3
   obtain ⟨y478, hy478⟩ : ∃ y_ : List (S65), y_ = (List.replicate ((l0.length : Int) : Int).toNat z65) := ⟨_, rfl⟩
   replace H : (laws_toVolS.l0 k l0 y478 0) = some r := by first | (rw [hy478]; with_reducible exact H) | (have H2_ := (Option.bind_some _ _).symm.trans H; rw [hy478]; with_reducible exact H2_) | (have H2_ := (Option.bind_some _ _).symm.trans H; with_reducible exact H2_) | with_reducible exact H | (rw [hy478]; exact H) | exact H
   have Ny478 := Az.mk hy478
   clear hy478
   have H' := Az.mk H
   clear H
   go_enter Try.func77, Try.ntmps77
   go_wp2_with (first | ((with_reducible refine zqg (N := 7) rfl ?_); refine Kd.R_make k65 _ 65 rfl (N := 7) rfl 55 _ _ rfl (l0.length : Int) rfl rfl Try.underlying55 (.agg #[(.string ⟨#[]⟩), (.slice none 0 0)]) 40 info65 rfl (by decide) (by omega) z65 (ok := fun _ => True) (okp := fun _ => True) (k65_mkM _ _ _ z65 (Kd.R_nil _ _ _ _ _)) (fun _ hk => hk) trivial (of_decide_eq_true (by first | (with_reducible assumption) | assumption)) (Nat.le_trans (Nat.mul_le_mul_right _ (of_decide_eq_true (by first | (with_reducible assumption) | assumption) : (l0.length : Int).toNat ≤ 7036874417766)) (by omega)) (Below.refl _ _) (Nat.le_refl _) ?_; intro v479 w4 ho5 hb hg_ hnew_; clear hg_ hnew_; (first | rw [← Ny478.out] at ho5 | (simp only [Int.reduceToNat] at ho5; rw [← Ny478.out] at ho5)); have n0_ := Az.mk (Kd.R_lower ho5 (below_size (by repeat (first | (with_reducible first | exact HB.out | apply zq2 | apply zq1 | apply zqd) | exact HB.out)))); have n1_ := Az.mk (below_step (by repeat (first | (with_reducible first | exact HB.out | apply zq2 | apply zq1 | apply zqd) | exact HB.out)) hb); clear HB; have HO480 := n0_; have HB := n1_; clear n0_ n1_; clear hb ho5))
   go_loopg [4] k (fun kq v4 w' => ∃ (x3_1 : List (S65)) (x4_1 : Int), v4 = .int .i64 x4_1 ∧ Az (laws_toVolS.l0 kq l0 x3_1 x4_1 = some r) ∧ Az (kq ≤ k) ∧ Az (Kd.R k65 65 w' w.heap.size (fun _ => True) v479 x3_1) ∧ Az (Below w.heap.size w w'))
   case atStart => exact ⟨(y478), (0), (by first | rfl | (simp; done) | (simp [*]; done)), H', ⟨Nat.le_refl _⟩, ⟨by (with_reducible repeat (first | apply Kd.R_alloc | apply Kd.R_drewN | apply Kd.R_drew)); exact HO480.out⟩, ⟨by repeat (first | (with_reducible first | exact HB.out | apply zq2 | apply zq1 | apply zqd) | exact HB.out)⟩⟩
   case round =>
    clear H'
    try clear c2
    try clear c2b0
    try clear c2b1
    try clear p2
    try clear c3
    try clear c3b0
    try clear c3b1
    obtain ⟨x3_1, x4_1, rfl, HA, HK1, HO_3, HB⟩ := hrel
    cases gk with
    | zero => exact absurd HA.out (by simp [laws_toVolS.l0])
    | succ k1 =>
     have H := HA.out
     clear HA
     simp only [laws_toVolS.l0] at H
     by_cases c6 : x4_1 < (l0.length : Int)
     ·rw [if_pos c6] at H
      have c6b0 : decide (x4_1 < (l0.length : Int)) = true := decide_eq_true c6
      clear c6
      by_cases c7 : 0 ≤ x4_1
      ·rw [if_pos c7] at H
       have c7b0 : decide (0 ≤ x4_1) = true := decide_eq_true c7
       clear c7
       replace H := Option.bind_eq_some_iff.mp H
       obtain ⟨⟨t482, t483⟩, A80, H⟩ := H
       replace H : (if x4_1 < (x3_1.length : Int) then (laws_toVolS.l0 k1 l0 (x3_1.set (x4_1 : Int).toNat (⟨t482, t483⟩ : S65)) (wrap64 (x4_1 + 1))) else (none)) = some r := H
       have A8 := Az.mk A80
       clear A80
       by_cases c9 : x4_1 < (x3_1.length : Int)
       ·rw [if_pos c9] at H
        have c9b0 : decide (x4_1 < (x3_1.length : Int)) = true := decide_eq_true c9
        clear c9
        obtain ⟨y486, hy486⟩ : ∃ y_ : List (S65), y_ = (x3_1.set (x4_1 : Int).toNat (⟨t482, t483⟩ : S65)) := ⟨_, rfl⟩
        replace H : (laws_toVolS.l0 k1 l0 y486 (wrap64 (x4_1 + 1))) = some r := by first | (rw [hy486]; with_reducible exact H) | (have H2_ := (Option.bind_some _ _).symm.trans H; rw [hy486]; with_reducible exact H2_) | (have H2_ := (Option.bind_some _ _).symm.trans H; with_reducible exact H2_) | with_reducible exact H | (rw [hy486]; exact H) | exact H
        have Ny486 := Az.mk hy486
        clear hy486
        have H' := Az.mk H
        clear H
        have p481 : 0 ≤ (x4_1 : Int) := of_decide_eq_true (by first | (with_reducible assumption) | assumption)
        have q481 : x4_1 < (l0.length : Int) := of_decide_eq_true (by first | (with_reducible assumption) | assumption)
        obtain ⟨ad481, A481_1, c481_1, e481, hx481_0, hx481_1, hl481_1, hi481_1⟩ := at_T120 HR0.out x4_1 p481 q481
        cases e481
        replace hx481_0 := (HB.out.cell (World.block_lt_of_cell? w _ hx481_0)).trans hx481_0
        replace hx481_1 := (HB.out.cell (World.block_lt_of_cell? w _ hx481_1)).trans hx481_1
        have HR481_1 := Az.mk hi481_1
        have HC481_1 := Az.mk hl481_1
        clear hi481_1 hl481_1
        replace p481 := eq_true p481
        replace q481 := eq_true q481
        go_wp2_with (first | ((with_reducible refine gate_callee (f := 100) rfl ?_); refine zq9 (some 20) rfl rfl Try.func100 (by kernel_rfl) rfl #[.agg #[.string ((rd_T120 l0 x4_1).f0), .slice A481_1 ((rd_T120 l0 x4_1).f1).length c481_1]] rfl (by (try simp only [List.map_toArray, List.map_cons, List.map_nil]); first | done | rfl | (simp only [List.length_drop, List.length_take]; rfl)) ?_; (with_reducible refine (laws_toVol.calls k1 ((rd_T120 l0 x4_1).f0) _ _ ((rd_T120 l0 x4_1).f1) t482 t483 _ ?side1 ?side2 A8.out).mono ?_); (case side1 => repeat (first | exact (Kd.C_below HR481_1.out HB.out) | (with_reducible refine Kd.C_alloc ?_ _) | (with_reducible refine Kd.C_drewN ?_ _) | (with_reducible refine Kd.C_drew ?_))); (case side2 => exact HC481_1.out); rintro e w11 ⟨v484, rfl, ho0, hb⟩; refine ⟨_, rfl, ?_⟩; have n0_ := Az.mk (Kd.R_elder' (by (with_reducible repeat (first | apply Kd.R_alloc | apply Kd.R_drewN | apply Kd.R_drew)); exact HO_3.out) (Kd.S_base ho0) hb); have n1_ := Az.mk (Kd.S_lower ho0 (below_size (by repeat (first | (with_reducible first | exact HB.out | apply zq2 | apply zq1 | apply zqd) | exact HB.out)))); have n2_ := Az.mk (below_step (by repeat (first | (with_reducible first | exact HB.out | apply zq2 | apply zq1 | apply zqd) | exact HB.out)) hb); clear HO_3; clear HB; have HO_3 := n0_; have HO485 := n1_; have HB := n2_; clear n0_ n1_ n2_; (try clear hb); (try clear hb2); (try clear hk); (try clear hi); (try clear ho0); have p10 : 0 ≤ (x4_1 : Int) := of_decide_eq_true (by first | (with_reducible assumption) | assumption); have q10 : (x4_1 : Int) < ((x3_1.length : Int) : Int) := of_decide_eq_true (by first | (with_reducible assumption) | assumption); obtain ⟨go10, co10, eo10, gb10, gl10, cl10, HG10⟩ := Kd.R_form HO_3.out (by omega); (first | cases eo10 | (injection eo10 with ea_ en_ ec_; (first | subst ea_ | (injection ea_ with ea_; subst ea_)); subst ec_; clear en_)); have GB10 := Az.mk gb10; have GG10 := Az.mk HG10; clear gb10 gl10 HG10; obtain ⟨ce10, hcl10, hM10, hcc10, hfr10⟩ := Kd.R_elem HO_3.out z65 (x4_1 : Int) p10 q10; obtain ⟨ve10_1, rfl, ge10_1⟩ := k65_openM hM10; have hx10_0 : w11.cell? ⟨go10, (x4_1 : Int).toNat * 2, none⟩ = some (.string ((rd_T65 x3_1 x4_1).f0)) := hcc10 0 _ rfl; have hx10_1 : w11.cell? ⟨go10, (x4_1 : Int).toNat * 2 + 1, none⟩ = some (ve10_1) := hcc10 1 _ rfl; have hf10_0 : w11.frozen? ⟨go10, (x4_1 : Int).toNat * 2, none⟩ = false := hfr10 0; have hf10_1 : w11.frozen? ⟨go10, (x4_1 : Int).toNat * 2 + 1, none⟩ = false := hfr10 1; clear hcl10 hcc10 hfr10 hM10; replace p10 := eq_true p10; replace q10 := eq_true q10; have n_ := Az.mk (Kd.R_mono (ok' := (fun k_ => some k_ ≠ (v484 : Value).ownBlock)) HO_3.out (fun k_ hk => hk.2)); clear HO_3; have HO_3 := n_; clear n_; have HX12 := Az.mk (show Kd.R k65 65 w11 w.heap.size (fun _ => True) (.slice (some ⟨go10, 0, none⟩) x3_1.length co10) x3_1 from (by (with_reducible repeat (first | apply Kd.R_alloc | apply Kd.R_drewN | apply Kd.R_drew)); exact Kd.R_mono HO_3.out (fun _ hk => trivial))); obtain ⟨ce12, hcl12, hM12, hcc12, hfr12⟩ := Kd.R_elem HX12.out z65 (x4_1 : Int) (of_decide_eq_true (by first | (with_reducible assumption) | assumption)) (by have h_ : (x4_1 : Int) < ((x3_1.length : Int) : Int) := of_decide_eq_true (by first | (with_reducible assumption) | assumption); first | exact h_ | (have e_ := (Kd.R_reads' HO_3.out).1; omega) | simpa using h_); obtain ⟨ve12_1, rfl, ge12_1⟩ := k65_openM hM12; have HP12 := Kd.R_seg HX12.out (x4_1 : Int) (of_decide_eq_true (by first | (with_reducible assumption) | assumption)) (by have h_ : (x4_1 : Int) < ((x3_1.length : Int) : Int) := of_decide_eq_true (by first | (with_reducible assumption) | assumption); first | exact h_ | (have e_ := (Kd.R_reads' HO_3.out).1; omega) | simpa using h_) (seg := [.string t482, v484]) (j := 0) hcl12 hcc12 (show 2 ≤ 2 from by decide) (x' := (⟨t482, t483⟩ : S65)) (k65_mkM _ _ _ (⟨t482, t483⟩ : S65) (Kd.R_mono (Kd.R_apart' ((Kd.S_R HO485.out)) (Kd.R_typed HO_3.out) (by decide)) (fun k_ hk => ⟨trivial, fun e_ => (hk.2) (by rw [e_]; rfl)⟩))) (fun _ hk => hk); have hx12_0 := hcc12 0 _ rfl; (try simp only [show (k65).sz = 2 from rfl, Nat.mul_one, Nat.add_zero] at hx12_0); have hf12_0 := hfr12 0; (try simp only [show (k65).sz = 2 from rfl, Nat.mul_one, Nat.add_zero] at hf12_0); have hx12_1 := hcc12 1 _ rfl; (try simp only [show (k65).sz = 2 from rfl, Nat.mul_one, Nat.add_zero] at hx12_1); have hf12_1 := hfr12 1; (try simp only [show (k65).sz = 2 from rfl, Nat.mul_one, Nat.add_zero] at hf12_1); clear hcl12 hcc12 hfr12 hM12) | ((with_reducible refine gate_store (t := 65) (p := 21) rfl ?_); have hst_v484 : ∀ (W_ : World) (a_ : Addr) (m_ : Mode), (store a_ v484 m_).run Try.prog W_ = stored Try.prog W_ a_ v484 m_ := fun W_ a_ m_ => run_store Try.prog W_ a_ _ m_ (by obtain ⟨A_, c_, e_⟩ := Kd.S_slice HO485.out; rw [e_]; rfl); refine store_event (t := 65) (p := 21) (v := ?vo_w13) (w1 := ((w11.setCell ⟨go10, (x4_1 : Int).toNat * 2, none⟩ (.string t482)).setCell ⟨go10, (x4_1 : Int).toNat * 2 + 1, none⟩ (v484))) ?hg ?ho ?hn ?hr ?_; (case ho => rfl); (case hg => rfl); (case hn => rfl); (case hr => first | (go_simp; done) | (go_simp; rfl)); intro w13 hw; have hg : w11.grownBy w13 (some go10) := (by rw [hw]; exact HP12.2); have hp_ : Kd.R k65 65 w13 w.heap.size (fun _ => True) (.slice (some ⟨go10, 0, none⟩) x3_1.length co10) y486 := (by rw [hw, Ny486.out]; exact HP12.1); clear HP12; have n0_ := Az.mk (hp_); have n1_ := Az.mk ((by rw [hw]; exact zq3 (zq3 (HB.out) GB10.out) GB10.out : Below w.heap.size w w13)); clear HO_3; clear HB; clear HO485; have HO_3 := n0_; have HB := n1_; clear n0_ n1_; clear hg hw hp_))
        go_roundg k1
        case measure => have := HK1.out; omega
        case rel => exact ⟨(y486), (wrap64 (x4_1 + 1)), (by first | rfl | (simp; done) | (simp [*]; done)), H', ⟨by have := HK1.out; omega⟩, ⟨by (with_reducible repeat (first | apply Kd.R_alloc | apply Kd.R_drewN | apply Kd.R_drew)); exact HO_3.out⟩, ⟨by repeat (first | (with_reducible first | exact HB.out | apply zq2 | apply zq1 | apply zqd) | exact HB.out)⟩⟩
       ·rw [if_neg c9] at H
        exact absurd H (by simp)
      ·rw [if_neg c7] at H
       exact absurd H (by simp)
     ·rw [if_neg c6] at H
      have c6b0 : decide (x4_1 < (l0.length : Int)) = false := decide_eq_false c6
      clear c6
      obtain rfl := Option.some.inj H
      go_wp2
      go_ret
      exact ⟨_, by first | rfl | (simp [errW_none, errW_some] <;> rfl) | (simp [*, errW_none, errW_some] <;> rfl), by (with_reducible repeat (first | apply Kd.R_alloc | apply Kd.R_drewN | apply Kd.R_drew)); exact HO_3.out, by repeat (first | (with_reducible first | exact HB.out | apply zq2 | apply zq1 | apply zqd) | exact HB.out)⟩
  ·rw [if_neg c3] at H
   exact absurd H (by simp)
 ·rw [if_neg c2] at H
  exact absurd H (by simp)
def laws_toRoot.f (k : Nat) (a0_0 : Int) (l0_1 : List (S120)) : Option (Int × (List (S65))) := (laws_toVolS.f k l0_1).bind fun t490 => (some (a0_0, t490))
set_option maxHeartbeats 8000000 in
set_option maxRecDepth 100000 in
theorem laws_toRoot.calls (k : Nat) (a0_0 : Int) (A0_1 : Option Addr) (c0_1 : Nat) (l0_1 : List (S120)) (r1 : Int) (r2 : List (S65)) (w : World) (hr0_1 : Kd.C k120 w A0_1 l0_1.length l0_1) (hc0_1 : l0_1.length ≤ c0_1) (h : laws_toRoot.f k a0_0 l0_1 = some (r1, r2)) :
  Calls Try.prog 37 #[.agg #[.int .i64 a0_0, .slice A0_1 l0_1.length c0_1]] w fun e w' => ∃ v1_ : Value, e = .returned (.agg #[.int .i64 r1, v1_]) ∧ Kd.R k65 65 w' w.heap.size (fun _ => True) v1_ r2 ∧ Below w.heap.size w w' := by
 have hu52 := Try.underlying52
 have hu57 := Try.underlying57
 have HR0_1 := Az.mk hr0_1
 have HC0_1 := Az.mk hc0_1
 clear hr0_1 hc0_1
 have HB := Az.mk (Below.refl w.heap.size w)
 have H : ((laws_toVolS.f k l0_1).bind fun t490 => (some (a0_0, t490))) = some (r1, r2) := h
 clear h
 replace H := Option.bind_eq_some_iff.mp H
 obtain ⟨t490, A20, H⟩ := H
 replace H : (some (a0_0, t490)) = some (r1, r2) := H
 have A2 := Az.mk A20
 clear A20
 simp only [Option.some.injEq, Prod.mk.injEq] at H
 obtain ⟨rfl, rfl⟩ := H
 go_enter Try.func37, Try.ntmps37
 go_wp2_with (first | ((with_reducible refine zqg (N := 1) rfl ?_); refine zqb ?hg (N := 1) ?hd (cs := #[.int .i64 a0_0, .slice A0_1 l0_1.length c0_1]) (t := 52) ?hr ?_; (case hd => rfl); (case hg => rfl); (case hr => first | (go_simp; done) | (go_simp; rfl)); intro gb487 hg w3 hbox hb; have n0_ := Az.mk (below_step (by repeat (first | (with_reducible first | exact HB.out | apply zq2 | apply zq1 | apply zqd) | exact HB.out)) hb); have n1_ := Az.mk (hbox); have n2_ := Az.mk ((by rw [hg]; exact (below_size (by repeat (first | (with_reducible first | exact HB.out | apply zq2 | apply zq1 | apply zqd) | exact HB.out))) : w.heap.size ≤ gb487)); have n3_ := Az.mk ((by rw [hg]; exact (below_size (by repeat (first | (with_reducible first | exact HB.out | apply zq2 | apply zq1 | apply zqd) | exact HB.out))) : w.heap.size ≤ gb487)); clear HB; have HB := n0_; have BK487 := n1_; have GW487 := n2_; have GE487 := n3_; clear n0_ n1_ n2_ n3_; clear hb hbox hg) | ((with_reducible refine zqg (N := 2) rfl ?_); refine zqb ?hg (N := 2) ?hd (cs := #[.int .i64 0, .slice none 0 0]) (t := 57) ?hr ?_; (case hd => rfl); (case hg => rfl); (case hr => first | (go_simp; done) | (go_simp; rfl)); intro gb488 hg w4 hbox hb; have n0_ := Az.mk (blk_below (g := gb487) (o := .cells #[.int .i64 a0_0, .slice A0_1 l0_1.length c0_1] 52 (0, 0)) (by (with_reducible repeat (first | refine zq6 ?_ _ | refine zq8 ?_ | refine zq7 ?_ _)); exact BK487.out) hb); have n1_ := Az.mk (below_step (by repeat (first | (with_reducible first | exact HB.out | apply zq2 | apply zq1 | apply zqd | refine zq3 ?_ GE487.out) | exact HB.out)) hb); have n2_ := Az.mk (hbox); have n3_ := Az.mk ((by rw [hg]; exact (below_size (by repeat (first | (with_reducible first | exact HB.out | apply zq2 | apply zq1 | apply zqd | refine zq3 ?_ GE487.out) | exact HB.out))) : w.heap.size ≤ gb488)); have n4_ := Az.mk ((by rw [hg]; exact (below_size (by repeat (first | (with_reducible first | exact HB.out | apply zq2 | apply zq1 | apply zqd | refine zq3 ?_ GE487.out) | exact HB.out))) : w.heap.size ≤ gb488)); have n5_ := Az.mk ((by rw [hg]; exact Nat.ne_of_lt (blk_lt (g := gb487) (o := .cells #[.int .i64 a0_0, .slice A0_1 l0_1.length c0_1] 52 (0, 0)) (by (with_reducible repeat (first | refine zq6 ?_ _ | refine zq8 ?_ | refine zq7 ?_ _)); exact BK487.out)) : gb487 ≠ gb488)); have n6_ := Az.mk ((by rw [hg]; exact Nat.ne_of_gt (blk_lt (g := gb487) (o := .cells #[.int .i64 a0_0, .slice A0_1 l0_1.length c0_1] 52 (0, 0)) (by (with_reducible repeat (first | refine zq6 ?_ _ | refine zq8 ?_ | refine zq7 ?_ _)); exact BK487.out)) : gb488 ≠ gb487)); clear BK487; clear HB; have BK487 := n0_; have HB := n1_; have BK488 := n2_; have GW488 := n3_; have GE488 := n4_; have NB487_488 := n5_; have NB488_487 := n6_; clear n0_ n1_ n2_ n3_ n4_ n5_ n6_; clear hb hbox hg) | ((with_reducible refine zqg (N := 3) rfl ?_); refine zqb ?hg (N := 3) ?hd (cs := #[.int .i64 0, .slice none 0 0]) (t := 57) ?hr ?_; (case hd => rfl); (case hg => rfl); (case hr => first | (go_simp; done) | (go_simp; rfl)); intro gb489 hg w5 hbox hb; have n0_ := Az.mk (blk_below (g := gb487) (o := .cells #[.int .i64 a0_0, .slice A0_1 l0_1.length c0_1] 52 (0, 0)) (by (with_reducible repeat (first | refine zq6 ?_ _ | refine zq8 ?_ | refine zq7 ?_ _)); exact BK487.out) hb); have n1_ := Az.mk (blk_below (g := gb488) (o := .cells #[.int .i64 0, .slice none 0 0] 57 (0, 0)) (by (with_reducible repeat (first | refine zq6 ?_ _ | refine zq8 ?_ | refine zq7 ?_ _)); exact BK488.out) hb); have n2_ := Az.mk (below_step (by repeat (first | (with_reducible first | exact HB.out | apply zq2 | apply zq1 | apply zqd | refine zq3 ?_ GE487.out | refine zq3 ?_ GE488.out) | exact HB.out)) hb); have n3_ := Az.mk (hbox); have n4_ := Az.mk ((by rw [hg]; exact (below_size (by repeat (first | (with_reducible first | exact HB.out | apply zq2 | apply zq1 | apply zqd | refine zq3 ?_ GE487.out | refine zq3 ?_ GE488.out) | exact HB.out))) : w.heap.size ≤ gb489)); have n5_ := Az.mk ((by rw [hg]; exact (below_size (by repeat (first | (with_reducible first | exact HB.out | apply zq2 | apply zq1 | apply zqd | refine zq3 ?_ GE487.out | refine zq3 ?_ GE488.out) | exact HB.out))) : w.heap.size ≤ gb489)); have n6_ := Az.mk ((by rw [hg]; exact Nat.ne_of_lt (blk_lt (g := gb487) (o := .cells #[.int .i64 a0_0, .slice A0_1 l0_1.length c0_1] 52 (0, 0)) (by (with_reducible repeat (first | refine zq6 ?_ _ | refine zq8 ?_ | refine zq7 ?_ _)); exact BK487.out)) : gb487 ≠ gb489)); have n7_ := Az.mk ((by rw [hg]; exact Nat.ne_of_gt (blk_lt (g := gb487) (o := .cells #[.int .i64 a0_0, .slice A0_1 l0_1.length c0_1] 52 (0, 0)) (by (with_reducible repeat (first | refine zq6 ?_ _ | refine zq8 ?_ | refine zq7 ?_ _)); exact BK487.out)) : gb489 ≠ gb487)); have n8_ := Az.mk ((by rw [hg]; exact Nat.ne_of_lt (blk_lt (g := gb488) (o := .cells #[.int .i64 0, .slice none 0 0] 57 (0, 0)) (by (with_reducible repeat (first | refine zq6 ?_ _ | refine zq8 ?_ | refine zq7 ?_ _)); exact BK488.out)) : gb488 ≠ gb489)); have n9_ := Az.mk ((by rw [hg]; exact Nat.ne_of_gt (blk_lt (g := gb488) (o := .cells #[.int .i64 0, .slice none 0 0] 57 (0, 0)) (by (with_reducible repeat (first | refine zq6 ?_ _ | refine zq8 ?_ | refine zq7 ?_ _)); exact BK488.out)) : gb489 ≠ gb488)); clear BK487; clear BK488; clear HB; have BK487 := n0_; have BK488 := n1_; have HB := n2_; have BK489 := n3_; have GW489 := n4_; have GE489 := n5_; have NB487_489 := n6_; have NB489_487 := n7_; have NB488_489 := n8_; have NB489_488 := n9_; clear n0_ n1_ n2_ n3_ n4_ n5_ n6_ n7_ n8_ n9_; clear hb hbox hg; have hnb6 := NB487_488.out; have hnc6 := NB488_487.out; have hnb7 := NB487_489.out; have hnc7 := NB489_487.out; have hcz8_0 : w5.cell? ⟨gb487, 0, none⟩ = some (.int .i64 a0_0) := (zq4 BK487.out 0).trans rfl; have hcz8_1 : w5.cell? ⟨gb487, 1, none⟩ = some (.slice A0_1 l0_1.length c0_1) := (zq4 BK487.out 1).trans rfl; have hfz8_0 := zq5 BK487.out 0; have hfz8_1 := zq5 BK487.out 1; have hnb9 := NB489_488.out; have hnc9 := NB488_489.out; have hcz10_0 : w5.cell? ⟨gb489, 0, none⟩ = some (.int .i64 0) := (zq4 BK489.out 0).trans rfl; have hcz10_1 : w5.cell? ⟨gb489, 1, none⟩ = some (.slice none 0 0) := (zq4 BK489.out 1).trans rfl; have hfz10_0 := zq5 BK489.out 0; have hfz10_1 := zq5 BK489.out 1) | ((with_reducible refine gate_callee (f := 77) rfl ?_); refine zq9 (some 9) rfl rfl Try.func77 (by kernel_rfl) rfl #[.slice A0_1 l0_1.length c0_1] rfl (by (try simp only [List.map_toArray, List.map_cons, List.map_nil]); first | done | rfl | (simp only [List.length_drop, List.length_take]; rfl)) ?_; (with_reducible refine (laws_toVolS.calls k _ _ l0_1 t490 _ ?side1 ?side2 A2.out).mono ?_); (case side1 => exact Kd.C_below HR0_1.out (by repeat (first | (with_reducible first | exact HB.out | apply zq2 | apply zq1 | apply zqd | refine zq3 ?_ GE487.out | refine zq3 ?_ GE488.out | refine zq3 ?_ GE489.out) | exact HB.out))); (case side2 => exact HC0_1.out); rintro e w11 ⟨v491, rfl, ho0, hb⟩; refine ⟨_, rfl, ?_⟩; have n0_ := Az.mk (Kd.R_lower ho0 (below_size (by repeat (first | (with_reducible first | exact HB.out | apply zq2 | apply zq1 | apply zqd | refine zq3 ?_ GE487.out | refine zq3 ?_ GE488.out | refine zq3 ?_ GE489.out) | exact HB.out)))); have n1_ := Az.mk (blk_below (g := gb487) (o := .cells #[.int .i64 a0_0, .slice A0_1 l0_1.length c0_1] 52 (0, 0)) (by (with_reducible repeat (first | refine zq6 ?_ _ | refine zq8 ?_ | refine zq7 ?_ _)); refine blk_far ?_ NB487_489.out _; (with_reducible repeat (first | refine zq6 ?_ _ | refine zq8 ?_ | refine zq7 ?_ _)); exact BK487.out) hb); have n2_ := Az.mk (blk_below (g := gb488) (o := .cells #[.int .i64 0, .slice none 0 0] 57 (0, 0)) (by (with_reducible repeat (first | refine zq6 ?_ _ | refine zq8 ?_ | refine zq7 ?_ _)); refine blk_far ?_ NB488_489.out _; (with_reducible repeat (first | refine zq6 ?_ _ | refine zq8 ?_ | refine zq7 ?_ _)); exact BK488.out) hb); have n3_ := Az.mk (blk_below (g := gb489) (o := .cells #[.int .i64 a0_0, .slice none 0 0] 57 (0, 0)) (by (with_reducible repeat (first | refine zq6 ?_ _ | refine zq8 ?_ | refine zq7 ?_ _)); refine blk_put (cs := #[.int .i64 0, .slice none 0 0]) ?_ 0 _ rfl; (with_reducible repeat (first | refine zq6 ?_ _ | refine zq8 ?_ | refine zq7 ?_ _)); exact BK489.out) hb); have n4_ := Az.mk (below_step (by repeat (first | (with_reducible first | exact HB.out | apply zq2 | apply zq1 | apply zqd | refine zq3 ?_ GE487.out | refine zq3 ?_ GE488.out | refine zq3 ?_ GE489.out) | exact HB.out)) hb); clear BK487; clear BK488; clear BK489; clear HB; have HO492 := n0_; have BK487 := n1_; have BK488 := n2_; have BK489 := n3_; have HB := n4_; clear n0_ n1_ n2_ n3_ n4_; (try clear hb); (try clear hb2); (try clear hk); (try clear hi); (try clear ho0); obtain ⟨Ao12, co12, eo12⟩ := Kd.R_slice HO492.out; subst eo12; have hcz13_0 : w11.cell? ⟨gb489, 0, none⟩ = some (.int .i64 a0_0) := (zq4 BK489.out 0).trans rfl; have hcz13_1 : w11.cell? ⟨gb489, 1, none⟩ = some (.slice none 0 0) := (zq4 BK489.out 1).trans rfl; have hfz13_0 := zq5 BK489.out 0; have hfz13_1 := zq5 BK489.out 1; have hcz14_0 : w11.cell? ⟨gb488, 0, none⟩ = some (.int .i64 0) := (zq4 BK488.out 0).trans rfl; have hcz14_1 : w11.cell? ⟨gb488, 1, none⟩ = some (.slice none 0 0) := (zq4 BK488.out 1).trans rfl; have hfz14_0 := zq5 BK488.out 0; have hfz14_1 := zq5 BK488.out 1))
 refine bodyPost_ret (results_cell_row rfl _ _ gb488 57 #[.int .i64 a0_0, .slice Ao12 t490.length co12] (0, 0) _ rfl (by (with_reducible repeat (first | refine zq6 ?_ _ | refine zq8 ?_ | refine zq7 ?_ _)); refine blk_put (cs := #[.int .i64 a0_0, .slice none 0 0]) ?_ 1 _ rfl; (with_reducible repeat (first | refine zq6 ?_ _ | refine zq8 ?_ | refine zq7 ?_ _)); refine blk_put (cs := #[.int .i64 0, .slice none 0 0]) ?_ 0 _ rfl; (with_reducible repeat (first | refine zq6 ?_ _ | refine zq8 ?_ | refine zq7 ?_ _)); refine blk_far ?_ NB488_489.out _; (with_reducible repeat (first | refine zq6 ?_ _ | refine zq8 ?_ | refine zq7 ?_ _)); exact BK488.out) Try.underlying57 rfl (by kernel_rfl)) rfl ?_
 exact ⟨_, by first | rfl | (simp [errW_none, errW_some] <;> rfl) | (simp [*, errW_none, errW_some] <;> rfl), by (with_reducible repeat (first | apply Kd.R_alloc | apply Kd.R_drewN | apply Kd.R_drew)); exact Kd.R_mono (Kd.R_far (p := ⟨gb488, 1, none⟩) (Kd.R_far (p := ⟨gb488, 0, none⟩) (Kd.R_far (p := ⟨gb489, 1, none⟩) (Kd.R_types (Kd.R_types HO492.out BK489.out (by decide)) BK488.out (by decide)) (fun _ hk => hk.1.2) (.slice Ao12 t490.length co12)) (fun _ hk => hk.2) (.int .i64 a0_0)) (fun _ hk => hk.2) (.slice Ao12 t490.length co12)) (fun _ hk => trivial), by repeat (first | (with_reducible first | exact HB.out | apply zq2 | apply zq1 | apply zqd | refine zq3 ?_ GE487.out | refine zq3 ?_ GE488.out | refine zq3 ?_ GE489.out) | exact HB.out)⟩
end Go.Proofs.Ytkoimmeghdbodaa.Print
namespace Go.Proofs.Ytkoimmeghdbodaa.Print
open Go.RowKit Go.Proofs.YtkoimmeghdbodaaW.PrintWords Go.Proofs.YtkoimmeghdbodaaW.PrintLast Go.Proofs.YtkoimmeghdbodaaW.PrintMore
attribute [local go_sem] max2_int min2_int max_two min_two max_three min_three max_four min_four   -- for this text's walks alone
set_option linter.unusedVariables false
set_option linter.unusedSimpArgs false
def laws_szPtrS.l0 : Nat → List (S24) → Int → Int → Option (Int)
 | 0, _, _, _ => none
 | k + 1, x0, x1, x5 => if x5 < (x0.length : Int) then (if 0 ≤ x5 then ((laws_szPtr.f ((rd_T24 x0 x5).f0) ((rd_T24 x0 x5).f1) ((rd_T24 x0 x5).f2) x1).bind fun t417 => (if t417 < 0 then (some (-1)) else (laws_szPtrS.l0 k x0 t417 (wrap64 (x5 + 1))))) else (none)) else (some x1)
def laws_szPtrS.f (k : Nat) (l0 : List (S24)) (a1 : Int) : Option (Int) := if (wrap64 (a1 - (l0.length : Int))) < 0 then (some (-1)) else (laws_szPtrS.l0 k l0 (wrap64 (a1 - (l0.length : Int))) 0)
set_option maxHeartbeats 8000000 in
set_option maxRecDepth 100000 in
theorem laws_szPtrS.calls (k : Nat) (A0 : Option Addr) (c0 : Nat) (l0 : List (S24)) (a1 : Int) (r : Int) (w : World) (hr0 : Kd.C k24 w A0 l0.length l0) (hc0 : l0.length ≤ c0) (h : laws_szPtrS.f k l0 a1 = some r) :
  Calls Try.prog 120 #[.slice A0 l0.length c0, .int .i64 a1] w fun e w' => e = .returned (.int .i64 r) ∧ Below w.heap.size w w' := by
 have hu24 := Try.underlying24
 have HR0 := Az.mk hr0
 have HC0 := Az.mk hc0
 clear hr0 hc0
 have HB := Az.mk (Below.refl w.heap.size w)
 have H : (if (wrap64 (a1 - (l0.length : Int))) < 0 then (some (-1)) else (laws_szPtrS.l0 k l0 (wrap64 (a1 - (l0.length : Int))) 0)) = some r := h
 clear h
 by_cases c3 : (wrap64 (a1 - (l0.length : Int))) < 0
 ·rw [if_pos c3] at H
  have c3b0 : decide ((wrap64 (a1 - (l0.length : Int))) < 0) = true := decide_eq_true c3
  clear c3
  obtain rfl := Option.some.inj H
  go_enter Try.func120, Try.ntmps120
  go_wp2
  go_ret
  exact ⟨by first | rfl | (simp [errW_none, errW_some] <;> rfl) | (simp [*, errW_none, errW_some] <;> rfl), by repeat (first | (with_reducible first | exact HB.out | apply zq2 | apply zq1 | apply zqd) | exact HB.out)⟩
 ·rw [if_neg c3] at H
  have c3b0 : decide ((wrap64 (a1 - (l0.length : Int))) < 0) = false := decide_eq_false c3
  clear c3
  have H' := Az.mk H
  clear H
  go_enter Try.func120, Try.ntmps120
  go_wp2
  go_loopg [1, 5] k (fun kq v1 v5 w' => ∃ (x1_1 : Int) (x5_1 : Int), v1 = .int .i64 x1_1 ∧ v5 = .int .i64 x5_1 ∧ Az (laws_szPtrS.l0 kq l0 x1_1 x5_1 = some r) ∧ Az (kq ≤ k) ∧ Az (Below w.heap.size w w'))
  case atStart => exact ⟨(wrap64 (a1 - (l0.length : Int))), (0), (by first | rfl | (simp; done) | (simp [*]; done)), (by first | rfl | (simp; done) | (simp [*]; done)), H', ⟨Nat.le_refl _⟩, ⟨by repeat (first | (with_reducible first | exact HB.out | apply zq2 | apply zq1 | apply zqd) | exact HB.out)⟩⟩
  case round =>
   clear H'
   try clear c1
   try clear p2
   try clear c3
   try clear c3b0
   obtain ⟨x1_1, x5_1, rfl, rfl, HA, HK1, HB⟩ := hrel
   cases gk with
   | zero => exact absurd HA.out (by simp [laws_szPtrS.l0])
   | succ k1 =>
    have H := HA.out
    clear HA
    simp only [laws_szPtrS.l0] at H
    by_cases c4 : x5_1 < (l0.length : Int)
    ·rw [if_pos c4] at H
     have c4b0 : decide (x5_1 < (l0.length : Int)) = true := decide_eq_true c4
     clear c4
     by_cases c5 : 0 ≤ x5_1
     ·rw [if_pos c5] at H
      have c5b0 : decide (0 ≤ x5_1) = true := decide_eq_true c5
      clear c5
      replace H := Option.bind_eq_some_iff.mp H
      obtain ⟨t417, A60, H⟩ := H
      replace H : (if t417 < 0 then (some (-1)) else (laws_szPtrS.l0 k1 l0 t417 (wrap64 (x5_1 + 1)))) = some r := H
      have A6 := Az.mk A60
      clear A60
      by_cases c7 : t417 < 0
      ·rw [if_pos c7] at H
       have c7b0 : decide (t417 < 0) = true := decide_eq_true c7
       clear c7
       obtain rfl := Option.some.inj H
       have p416 : 0 ≤ (x5_1 : Int) := of_decide_eq_true (by first | (with_reducible assumption) | assumption)
       have q416 : x5_1 < (l0.length : Int) := of_decide_eq_true (by first | (with_reducible assumption) | assumption)
       obtain ⟨ad416, A416_2, c416_2, e416, hx416_0, hx416_1, hx416_2, hl416_2, hi416_2⟩ := at_T24 HR0.out x5_1 p416 q416
       cases e416
       replace hx416_0 := (HB.out.cell (World.block_lt_of_cell? w _ hx416_0)).trans hx416_0
       replace hx416_1 := (HB.out.cell (World.block_lt_of_cell? w _ hx416_1)).trans hx416_1
       replace hx416_2 := (HB.out.cell (World.block_lt_of_cell? w _ hx416_2)).trans hx416_2
       have HR416_2 := Az.mk hi416_2
       have HC416_2 := Az.mk hl416_2
       clear hi416_2 hl416_2
       replace p416 := eq_true p416
       replace q416 := eq_true q416
       go_wp2_with (first | ((with_reducible refine gate_callee (f := 17) rfl ?_); refine zq9 (some 23) rfl rfl Try.func17 (by kernel_rfl) rfl #[.agg #[.int .i64 ((rd_T24 l0 x5_1).f0), .int .i64 ((rd_T24 l0 x5_1).f1), .slice A416_2 ((rd_T24 l0 x5_1).f2).length c416_2], .int .i64 x1_1] rfl (by (try simp only [List.map_toArray, List.map_cons, List.map_nil]); first | done | rfl | (simp only [List.length_drop, List.length_take]; rfl)) ?_; (with_reducible refine (laws_szPtr.calls ((rd_T24 l0 x5_1).f0) ((rd_T24 l0 x5_1).f1) _ _ ((rd_T24 l0 x5_1).f2) x1_1 t417 _ ?side1 ?side2 A6.out).mono ?_); (case side1 => repeat (first | exact (Kd.C_below HR416_2.out HB.out) | (with_reducible refine Kd.C_alloc ?_ _) | (with_reducible refine Kd.C_drewN ?_ _) | (with_reducible refine Kd.C_drew ?_))); (case side2 => exact HC416_2.out); rintro e w8 ⟨rfl, hb⟩; refine ⟨_, rfl, ?_⟩; have n0_ := Az.mk (below_step (by repeat (first | (with_reducible first | exact HB.out | apply zq2 | apply zq1 | apply zqd) | exact HB.out)) hb); clear HB; have HB := n0_; clear n0_; (try clear hb); (try clear hb2); (try clear hk); (try clear hi)))
       go_ret
       exact ⟨by first | rfl | (simp [errW_none, errW_some] <;> rfl) | (simp [*, errW_none, errW_some] <;> rfl), by repeat (first | (with_reducible first | exact HB.out | apply zq2 | apply zq1 | apply zqd) | exact HB.out)⟩
      ·rw [if_neg c7] at H
       have c7b0 : decide (t417 < 0) = false := decide_eq_false c7
       clear c7
       have H' := Az.mk H
       clear H
       have p416 : 0 ≤ (x5_1 : Int) := of_decide_eq_true (by first | (with_reducible assumption) | assumption)
       have q416 : x5_1 < (l0.length : Int) := of_decide_eq_true (by first | (with_reducible assumption) | assumption)
       obtain ⟨ad416, A416_2, c416_2, e416, hx416_0, hx416_1, hx416_2, hl416_2, hi416_2⟩ := at_T24 HR0.out x5_1 p416 q416
       cases e416
       replace hx416_0 := (HB.out.cell (World.block_lt_of_cell? w _ hx416_0)).trans hx416_0
       replace hx416_1 := (HB.out.cell (World.block_lt_of_cell? w _ hx416_1)).trans hx416_1
       replace hx416_2 := (HB.out.cell (World.block_lt_of_cell? w _ hx416_2)).trans hx416_2
       have HR416_2 := Az.mk hi416_2
       have HC416_2 := Az.mk hl416_2
       clear hi416_2 hl416_2
       replace p416 := eq_true p416
       replace q416 := eq_true q416
       go_wp2_with (first | ((with_reducible refine gate_callee (f := 17) rfl ?_); refine zq9 (some 23) rfl rfl Try.func17 (by kernel_rfl) rfl #[.agg #[.int .i64 ((rd_T24 l0 x5_1).f0), .int .i64 ((rd_T24 l0 x5_1).f1), .slice A416_2 ((rd_T24 l0 x5_1).f2).length c416_2], .int .i64 x1_1] rfl (by (try simp only [List.map_toArray, List.map_cons, List.map_nil]); first | done | rfl | (simp only [List.length_drop, List.length_take]; rfl)) ?_; (with_reducible refine (laws_szPtr.calls ((rd_T24 l0 x5_1).f0) ((rd_T24 l0 x5_1).f1) _ _ ((rd_T24 l0 x5_1).f2) x1_1 t417 _ ?side1 ?side2 A6.out).mono ?_); (case side1 => repeat (first | exact (Kd.C_below HR416_2.out HB.out) | (with_reducible refine Kd.C_alloc ?_ _) | (with_reducible refine Kd.C_drewN ?_ _) | (with_reducible refine Kd.C_drew ?_))); (case side2 => exact HC416_2.out); rintro e w9 ⟨rfl, hb⟩; refine ⟨_, rfl, ?_⟩; have n0_ := Az.mk (below_step (by repeat (first | (with_reducible first | exact HB.out | apply zq2 | apply zq1 | apply zqd) | exact HB.out)) hb); clear HB; have HB := n0_; clear n0_; (try clear hb); (try clear hb2); (try clear hk); (try clear hi)))
       go_roundg k1
       case measure => have := HK1.out; omega
       case rel => exact ⟨(t417), (wrap64 (x5_1 + 1)), (by first | rfl | (simp; done) | (simp [*]; done)), (by first | rfl | (simp; done) | (simp [*]; done)), H', ⟨by have := HK1.out; omega⟩, ⟨by repeat (first | (with_reducible first | exact HB.out | apply zq2 | apply zq1 | apply zqd) | exact HB.out)⟩⟩
     ·rw [if_neg c5] at H
      exact absurd H (by simp)
    ·rw [if_neg c4] at H
     have c4b0 : decide (x5_1 < (l0.length : Int)) = false := decide_eq_false c4
     clear c4
     obtain rfl := Option.some.inj H
     go_wp2
     go_ret
     exact ⟨by first | rfl | (simp [errW_none, errW_some] <;> rfl) | (simp [*, errW_none, errW_some] <;> rfl), by repeat (first | (with_reducible first | exact HB.out | apply zq2 | apply zq1 | apply zqd) | exact HB.out)⟩
def laws_szVol.f (k : Nat) (a0_0 : ByteArray) (l0_1 : List (S24)) (a1 : Int) : Option (Int) := if (wrap64 (a1 - (a0_0.size : Int))) < 0 then (some (-1)) else ((laws_szPtrS.f k l0_1 (wrap64 (a1 - (a0_0.size : Int)))).bind fun t419 => (if t419 < 0 then (some (-1)) else (some t419)))
set_option maxHeartbeats 8000000 in
set_option maxRecDepth 100000 in
theorem laws_szVol.calls (k : Nat) (a0_0 : ByteArray) (A0_1 : Option Addr) (c0_1 : Nat) (l0_1 : List (S24)) (a1 : Int) (r : Int) (w : World) (hr0_1 : Kd.C k24 w A0_1 l0_1.length l0_1) (hc0_1 : l0_1.length ≤ c0_1) (h : laws_szVol.f k a0_0 l0_1 a1 = some r) :
  Calls Try.prog 97 #[.agg #[.string a0_0, .slice A0_1 l0_1.length c0_1], .int .i64 a1] w fun e w' => e = .returned (.int .i64 r) ∧ Below w.heap.size w w' := by
 have hu120 := Try.underlying120
 have HR0_1 := Az.mk hr0_1
 have HC0_1 := Az.mk hc0_1
 clear hr0_1 hc0_1
 have HB := Az.mk (Below.refl w.heap.size w)
 have H : (if (wrap64 (a1 - (a0_0.size : Int))) < 0 then (some (-1)) else ((laws_szPtrS.f k l0_1 (wrap64 (a1 - (a0_0.size : Int)))).bind fun t419 => (if t419 < 0 then (some (-1)) else (some t419)))) = some r := h
 clear h
 by_cases c3 : (wrap64 (a1 - (a0_0.size : Int))) < 0
 ·rw [if_pos c3] at H
  have c3b0 : decide ((wrap64 (a1 - (a0_0.size : Int))) < 0) = true := decide_eq_true c3
  clear c3
  obtain rfl := Option.some.inj H
  go_enter Try.func97, Try.ntmps97
  go_wp2_with (first | ((with_reducible refine zqg (N := 2) rfl ?_); refine zqb ?hg (N := 2) ?hd (cs := #[.string a0_0, .slice A0_1 l0_1.length c0_1]) (t := 120) ?hr ?_; (case hd => rfl); (case hg => rfl); (case hr => first | (go_simp; done) | (go_simp; rfl)); intro gb418 hg w4 hbox hb; have n0_ := Az.mk (below_step (by repeat (first | (with_reducible first | exact HB.out | apply zq2 | apply zq1 | apply zqd) | exact HB.out)) hb); have n1_ := Az.mk (hbox); have n2_ := Az.mk ((by rw [hg]; exact (below_size (by repeat (first | (with_reducible first | exact HB.out | apply zq2 | apply zq1 | apply zqd) | exact HB.out))) : w.heap.size ≤ gb418)); have n3_ := Az.mk ((by rw [hg]; exact (below_size (by repeat (first | (with_reducible first | exact HB.out | apply zq2 | apply zq1 | apply zqd) | exact HB.out))) : w.heap.size ≤ gb418)); clear HB; have HB := n0_; have BK418 := n1_; have GW418 := n2_; have GE418 := n3_; clear n0_ n1_ n2_ n3_; clear hb hbox hg; have hcz5_0 : w4.cell? ⟨gb418, 0, none⟩ = some (.string a0_0) := (zq4 BK418.out 0).trans rfl; have hcz5_1 : w4.cell? ⟨gb418, 1, none⟩ = some (.slice A0_1 l0_1.length c0_1) := (zq4 BK418.out 1).trans rfl; have hfz5_0 := zq5 BK418.out 0; have hfz5_1 := zq5 BK418.out 1))
  go_ret
  exact ⟨by first | rfl | (simp [errW_none, errW_some] <;> rfl) | (simp [*, errW_none, errW_some] <;> rfl), by repeat (first | (with_reducible first | exact HB.out | apply zq2 | apply zq1 | apply zqd | refine zq3 ?_ GE418.out) | exact HB.out)⟩
 ·rw [if_neg c3] at H
  have c3b0 : decide ((wrap64 (a1 - (a0_0.size : Int))) < 0) = false := decide_eq_false c3
  clear c3
  replace H := Option.bind_eq_some_iff.mp H
  obtain ⟨t419, A60, H⟩ := H
  replace H : (if t419 < 0 then (some (-1)) else (some t419)) = some r := H
  have A6 := Az.mk A60
  clear A60
  by_cases c7 : t419 < 0
  ·rw [if_pos c7] at H
   have c7b0 : decide (t419 < 0) = true := decide_eq_true c7
   clear c7
   obtain rfl := Option.some.inj H
   go_enter Try.func97, Try.ntmps97
   go_wp2_with (first | ((with_reducible refine zqg (N := 2) rfl ?_); refine zqb ?hg (N := 2) ?hd (cs := #[.string a0_0, .slice A0_1 l0_1.length c0_1]) (t := 120) ?hr ?_; (case hd => rfl); (case hg => rfl); (case hr => first | (go_simp; done) | (go_simp; rfl)); intro gb418 hg w8 hbox hb; have n0_ := Az.mk (below_step (by repeat (first | (with_reducible first | exact HB.out | apply zq2 | apply zq1 | apply zqd) | exact HB.out)) hb); have n1_ := Az.mk (hbox); have n2_ := Az.mk ((by rw [hg]; exact (below_size (by repeat (first | (with_reducible first | exact HB.out | apply zq2 | apply zq1 | apply zqd) | exact HB.out))) : w.heap.size ≤ gb418)); have n3_ := Az.mk ((by rw [hg]; exact (below_size (by repeat (first | (with_reducible first | exact HB.out | apply zq2 | apply zq1 | apply zqd) | exact HB.out))) : w.heap.size ≤ gb418)); clear HB; have HB := n0_; have BK418 := n1_; have GW418 := n2_; have GE418 := n3_; clear n0_ n1_ n2_ n3_; clear hb hbox hg; have hcz9_0 : w8.cell? ⟨gb418, 0, none⟩ = some (.string a0_0) := (zq4 BK418.out 0).trans rfl; have hcz9_1 : w8.cell? ⟨gb418, 1, none⟩ = some (.slice A0_1 l0_1.length c0_1) := (zq4 BK418.out 1).trans rfl; have hfz9_0 := zq5 BK418.out 0; have hfz9_1 := zq5 BK418.out 1) | ((with_reducible refine gate_callee (f := 120) rfl ?_); refine zq9 (some 15) rfl rfl Try.func120 (by kernel_rfl) rfl #[.slice A0_1 l0_1.length c0_1, .int .i64 (wrap64 (a1 - (a0_0.size : Int)))] rfl (by (try simp only [List.map_toArray, List.map_cons, List.map_nil]); first | done | rfl | (simp only [List.length_drop, List.length_take]; rfl)) ?_; (with_reducible refine (laws_szPtrS.calls k _ _ l0_1 (wrap64 (a1 - (a0_0.size : Int))) t419 _ ?side1 ?side2 A6.out).mono ?_); (case side1 => repeat (first | exact (Kd.C_below HR0_1.out HB.out) | (with_reducible refine Kd.C_alloc ?_ _) | (with_reducible refine Kd.C_drewN ?_ _) | (with_reducible refine Kd.C_drew ?_))); (case side2 => exact HC0_1.out); rintro e w10 ⟨rfl, hb⟩; refine ⟨_, rfl, ?_⟩; have n0_ := Az.mk (blk_below (g := gb418) (o := .cells #[.string a0_0, .slice A0_1 l0_1.length c0_1] 120 (0, 0)) (by (with_reducible repeat (first | refine zq6 ?_ _ | refine zq8 ?_ | refine zq7 ?_ _)); exact BK418.out) hb); have n1_ := Az.mk (below_step (by repeat (first | (with_reducible first | exact HB.out | apply zq2 | apply zq1 | apply zqd | refine zq3 ?_ GE418.out) | exact HB.out)) hb); clear BK418; clear HB; have BK418 := n0_; have HB := n1_; clear n0_ n1_; (try clear hb); (try clear hb2); (try clear hk); (try clear hi)))
   go_ret
   exact ⟨by first | rfl | (simp [errW_none, errW_some] <;> rfl) | (simp [*, errW_none, errW_some] <;> rfl), by repeat (first | (with_reducible first | exact HB.out | apply zq2 | apply zq1 | apply zqd | refine zq3 ?_ GE418.out) | exact HB.out)⟩
  ·rw [if_neg c7] at H
   have c7b0 : decide (t419 < 0) = false := decide_eq_false c7
   clear c7
   obtain rfl := Option.some.inj H
   go_enter Try.func97, Try.ntmps97
   go_wp2_with (first | ((with_reducible refine zqg (N := 2) rfl ?_); refine zqb ?hg (N := 2) ?hd (cs := #[.string a0_0, .slice A0_1 l0_1.length c0_1]) (t := 120) ?hr ?_; (case hd => rfl); (case hg => rfl); (case hr => first | (go_simp; done) | (go_simp; rfl)); intro gb418 hg w11 hbox hb; have n0_ := Az.mk (below_step (by repeat (first | (with_reducible first | exact HB.out | apply zq2 | apply zq1 | apply zqd) | exact HB.out)) hb); have n1_ := Az.mk (hbox); have n2_ := Az.mk ((by rw [hg]; exact (below_size (by repeat (first | (with_reducible first | exact HB.out | apply zq2 | apply zq1 | apply zqd) | exact HB.out))) : w.heap.size ≤ gb418)); have n3_ := Az.mk ((by rw [hg]; exact (below_size (by repeat (first | (with_reducible first | exact HB.out | apply zq2 | apply zq1 | apply zqd) | exact HB.out))) : w.heap.size ≤ gb418)); clear HB; have HB := n0_; have BK418 := n1_; have GW418 := n2_; have GE418 := n3_; clear n0_ n1_ n2_ n3_; clear hb hbox hg; have hcz12_0 : w11.cell? ⟨gb418, 0, none⟩ = some (.string a0_0) := (zq4 BK418.out 0).trans rfl; have hcz12_1 : w11.cell? ⟨gb418, 1, none⟩ = some (.slice A0_1 l0_1.length c0_1) := (zq4 BK418.out 1).trans rfl; have hfz12_0 := zq5 BK418.out 0; have hfz12_1 := zq5 BK418.out 1) | ((with_reducible refine gate_callee (f := 120) rfl ?_); refine zq9 (some 15) rfl rfl Try.func120 (by kernel_rfl) rfl #[.slice A0_1 l0_1.length c0_1, .int .i64 (wrap64 (a1 - (a0_0.size : Int)))] rfl (by (try simp only [List.map_toArray, List.map_cons, List.map_nil]); first | done | rfl | (simp only [List.length_drop, List.length_take]; rfl)) ?_; (with_reducible refine (laws_szPtrS.calls k _ _ l0_1 (wrap64 (a1 - (a0_0.size : Int))) t419 _ ?side1 ?side2 A6.out).mono ?_); (case side1 => repeat (first | exact (Kd.C_below HR0_1.out HB.out) | (with_reducible refine Kd.C_alloc ?_ _) | (with_reducible refine Kd.C_drewN ?_ _) | (with_reducible refine Kd.C_drew ?_))); (case side2 => exact HC0_1.out); rintro e w13 ⟨rfl, hb⟩; refine ⟨_, rfl, ?_⟩; have n0_ := Az.mk (blk_below (g := gb418) (o := .cells #[.string a0_0, .slice A0_1 l0_1.length c0_1] 120 (0, 0)) (by (with_reducible repeat (first | refine zq6 ?_ _ | refine zq8 ?_ | refine zq7 ?_ _)); exact BK418.out) hb); have n1_ := Az.mk (below_step (by repeat (first | (with_reducible first | exact HB.out | apply zq2 | apply zq1 | apply zqd | refine zq3 ?_ GE418.out) | exact HB.out)) hb); clear BK418; clear HB; have BK418 := n0_; have HB := n1_; clear n0_ n1_; (try clear hb); (try clear hb2); (try clear hk); (try clear hi)))
   go_ret
   exact ⟨by first | rfl | (simp [errW_none, errW_some] <;> rfl) | (simp [*, errW_none, errW_some] <;> rfl), by repeat (first | (with_reducible first | exact HB.out | apply zq2 | apply zq1 | apply zqd | refine zq3 ?_ GE418.out) | exact HB.out)⟩
end Go.Proofs.Ytkoimmeghdbodaa.Print
namespace Go.Proofs.Ytkoimmeghdbodaa.Print
open Go.RowKit Go.Proofs.YtkoimmeghdbodaaW.PrintWords Go.Proofs.YtkoimmeghdbodaaW.PrintLast Go.Proofs.YtkoimmeghdbodaaW.PrintMore
attribute [local go_sem] max2_int min2_int max_two min_two max_three min_three max_four min_four   -- for this text's walks alone
set_option linter.unusedVariables false
set_option linter.unusedSimpArgs false
def laws_szVolS.l0 : Nat → List (S120) → Int → Int → Option (Int)
 | 0, _, _, _ => none
 | k + 1, x0, x1, x5 => if x5 < (x0.length : Int) then (if 0 ≤ x5 then ((laws_szVol.f k ((rd_T120 x0 x5).f0) ((rd_T120 x0 x5).f1) x1).bind fun t421 => (if t421 < 0 then (some (-1)) else (laws_szVolS.l0 k x0 t421 (wrap64 (x5 + 1))))) else (none)) else (some x1)
def laws_szVolS.f (k : Nat) (l0 : List (S120)) (a1 : Int) : Option (Int) := if (wrap64 (a1 - (l0.length : Int))) < 0 then (some (-1)) else (laws_szVolS.l0 k l0 (wrap64 (a1 - (l0.length : Int))) 0)
set_option maxHeartbeats 8000000 in
set_option maxRecDepth 100000 in
theorem laws_szVolS.calls (k : Nat) (A0 : Option Addr) (c0 : Nat) (l0 : List (S120)) (a1 : Int) (r : Int) (w : World) (hr0 : Kd.C k120 w A0 l0.length l0) (hc0 : l0.length ≤ c0) (h : laws_szVolS.f k l0 a1 = some r) :
  Calls Try.prog 74 #[.slice A0 l0.length c0, .int .i64 a1] w fun e w' => e = .returned (.int .i64 r) ∧ Below w.heap.size w w' := by
 have hu120 := Try.underlying120
 have HR0 := Az.mk hr0
 have HC0 := Az.mk hc0
 clear hr0 hc0
 have HB := Az.mk (Below.refl w.heap.size w)
 have H : (if (wrap64 (a1 - (l0.length : Int))) < 0 then (some (-1)) else (laws_szVolS.l0 k l0 (wrap64 (a1 - (l0.length : Int))) 0)) = some r := h
 clear h
 by_cases c3 : (wrap64 (a1 - (l0.length : Int))) < 0
 ·rw [if_pos c3] at H
  have c3b0 : decide ((wrap64 (a1 - (l0.length : Int))) < 0) = true := decide_eq_true c3
  clear c3
  obtain rfl := Option.some.inj H
  go_enter Try.func74, Try.ntmps74
  go_wp2
  go_ret
  exact ⟨by first | rfl | (simp [errW_none, errW_some] <;> rfl) | (simp [*, errW_none, errW_some] <;> rfl), by repeat (first | (with_reducible first | exact HB.out | apply zq2 | apply zq1 | apply zqd) | exact HB.out)⟩
 ·rw [if_neg c3] at H
  have c3b0 : decide ((wrap64 (a1 - (l0.length : Int))) < 0) = false := decide_eq_false c3
  clear c3
  have H' := Az.mk H
  clear H
  go_enter Try.func74, Try.ntmps74
  go_wp2
  go_loopg [1, 5] k (fun kq v1 v5 w' => ∃ (x1_1 : Int) (x5_1 : Int), v1 = .int .i64 x1_1 ∧ v5 = .int .i64 x5_1 ∧ Az (laws_szVolS.l0 kq l0 x1_1 x5_1 = some r) ∧ Az (kq ≤ k) ∧ Az (Below w.heap.size w w'))
  case atStart => exact ⟨(wrap64 (a1 - (l0.length : Int))), (0), (by first | rfl | (simp; done) | (simp [*]; done)), (by first | rfl | (simp; done) | (simp [*]; done)), H', ⟨Nat.le_refl _⟩, ⟨by repeat (first | (with_reducible first | exact HB.out | apply zq2 | apply zq1 | apply zqd) | exact HB.out)⟩⟩
  case round =>
   clear H'
   try clear p2
   try clear c3
   try clear c3b0
   obtain ⟨x1_1, x5_1, rfl, rfl, HA, HK1, HB⟩ := hrel
   cases gk with
   | zero => exact absurd HA.out (by simp [laws_szVolS.l0])
   | succ k1 =>
    have H := HA.out
    clear HA
    simp only [laws_szVolS.l0] at H
    by_cases c4 : x5_1 < (l0.length : Int)
    ·rw [if_pos c4] at H
     have c4b0 : decide (x5_1 < (l0.length : Int)) = true := decide_eq_true c4
     clear c4
     by_cases c5 : 0 ≤ x5_1
     ·rw [if_pos c5] at H
      have c5b0 : decide (0 ≤ x5_1) = true := decide_eq_true c5
      clear c5
      replace H := Option.bind_eq_some_iff.mp H
      obtain ⟨t421, A60, H⟩ := H
      replace H : (if t421 < 0 then (some (-1)) else (laws_szVolS.l0 k1 l0 t421 (wrap64 (x5_1 + 1)))) = some r := H
      have A6 := Az.mk A60
      clear A60
      by_cases c7 : t421 < 0
      ·rw [if_pos c7] at H
       have c7b0 : decide (t421 < 0) = true := decide_eq_true c7
       clear c7
       obtain rfl := Option.some.inj H
       have p420 : 0 ≤ (x5_1 : Int) := of_decide_eq_true (by first | (with_reducible assumption) | assumption)
       have q420 : x5_1 < (l0.length : Int) := of_decide_eq_true (by first | (with_reducible assumption) | assumption)
       obtain ⟨ad420, A420_1, c420_1, e420, hx420_0, hx420_1, hl420_1, hi420_1⟩ := at_T120 HR0.out x5_1 p420 q420
       cases e420
       replace hx420_0 := (HB.out.cell (World.block_lt_of_cell? w _ hx420_0)).trans hx420_0
       replace hx420_1 := (HB.out.cell (World.block_lt_of_cell? w _ hx420_1)).trans hx420_1
       have HR420_1 := Az.mk hi420_1
       have HC420_1 := Az.mk hl420_1
       clear hi420_1 hl420_1
       replace p420 := eq_true p420
       replace q420 := eq_true q420
       go_wp2_with (first | ((with_reducible refine gate_callee (f := 97) rfl ?_); refine zq9 (some 23) rfl rfl Try.func97 (by kernel_rfl) rfl #[.agg #[.string ((rd_T120 l0 x5_1).f0), .slice A420_1 ((rd_T120 l0 x5_1).f1).length c420_1], .int .i64 x1_1] rfl (by (try simp only [List.map_toArray, List.map_cons, List.map_nil]); first | done | rfl | (simp only [List.length_drop, List.length_take]; rfl)) ?_; (with_reducible refine (laws_szVol.calls k1 ((rd_T120 l0 x5_1).f0) _ _ ((rd_T120 l0 x5_1).f1) x1_1 t421 _ ?side1 ?side2 A6.out).mono ?_); (case side1 => repeat (first | exact (Kd.C_below HR420_1.out HB.out) | (with_reducible refine Kd.C_alloc ?_ _) | (with_reducible refine Kd.C_drewN ?_ _) | (with_reducible refine Kd.C_drew ?_))); (case side2 => exact HC420_1.out); rintro e w8 ⟨rfl, hb⟩; refine ⟨_, rfl, ?_⟩; have n0_ := Az.mk (below_step (by repeat (first | (with_reducible first | exact HB.out | apply zq2 | apply zq1 | apply zqd) | exact HB.out)) hb); clear HB; have HB := n0_; clear n0_; (try clear hb); (try clear hb2); (try clear hk); (try clear hi)))
       go_ret
       exact ⟨by first | rfl | (simp [errW_none, errW_some] <;> rfl) | (simp [*, errW_none, errW_some] <;> rfl), by repeat (first | (with_reducible first | exact HB.out | apply zq2 | apply zq1 | apply zqd) | exact HB.out)⟩
      ·rw [if_neg c7] at H
       have c7b0 : decide (t421 < 0) = false := decide_eq_false c7
       clear c7
       have H' := Az.mk H
       clear H
       have p420 : 0 ≤ (x5_1 : Int) := of_decide_eq_true (by first | (with_reducible assumption) | assumption)
       have q420 : x5_1 < (l0.length : Int) := of_decide_eq_true (by first | (with_reducible assumption) | assumption)
       obtain ⟨ad420, A420_1, c420_1, e420, hx420_0, hx420_1, hl420_1, hi420_1⟩ := at_T120 HR0.out x5_1 p420 q420
       cases e420
       replace hx420_0 := (HB.out.cell (World.block_lt_of_cell? w _ hx420_0)).trans hx420_0
       replace hx420_1 := (HB.out.cell (World.block_lt_of_cell? w _ hx420_1)).trans hx420_1
       have HR420_1 := Az.mk hi420_1
       have HC420_1 := Az.mk hl420_1
       clear hi420_1 hl420_1
       replace p420 := eq_true p420
       replace q420 := eq_true q420
       go_wp2_with (first | ((with_reducible refine gate_callee (f := 97) rfl ?_); refine zq9 (some 23) rfl rfl Try.func97 (by kernel_rfl) rfl #[.agg #[.string ((rd_T120 l0 x5_1).f0), .slice A420_1 ((rd_T120 l0 x5_1).f1).length c420_1], .int .i64 x1_1] rfl (by (try simp only [List.map_toArray, List.map_cons, List.map_nil]); first | done | rfl | (simp only [List.length_drop, List.length_take]; rfl)) ?_; (with_reducible refine (laws_szVol.calls k1 ((rd_T120 l0 x5_1).f0) _ _ ((rd_T120 l0 x5_1).f1) x1_1 t421 _ ?side1 ?side2 A6.out).mono ?_); (case side1 => repeat (first | exact (Kd.C_below HR420_1.out HB.out) | (with_reducible refine Kd.C_alloc ?_ _) | (with_reducible refine Kd.C_drewN ?_ _) | (with_reducible refine Kd.C_drew ?_))); (case side2 => exact HC420_1.out); rintro e w9 ⟨rfl, hb⟩; refine ⟨_, rfl, ?_⟩; have n0_ := Az.mk (below_step (by repeat (first | (with_reducible first | exact HB.out | apply zq2 | apply zq1 | apply zqd) | exact HB.out)) hb); clear HB; have HB := n0_; clear n0_; (try clear hb); (try clear hb2); (try clear hk); (try clear hi)))
       go_roundg k1
       case measure => have := HK1.out; omega
       case rel => exact ⟨(t421), (wrap64 (x5_1 + 1)), (by first | rfl | (simp; done) | (simp [*]; done)), (by first | rfl | (simp; done) | (simp [*]; done)), H', ⟨by have := HK1.out; omega⟩, ⟨by repeat (first | (with_reducible first | exact HB.out | apply zq2 | apply zq1 | apply zqd) | exact HB.out)⟩⟩
     ·rw [if_neg c5] at H
      exact absurd H (by simp)
    ·rw [if_neg c4] at H
     have c4b0 : decide (x5_1 < (l0.length : Int)) = false := decide_eq_false c4
     clear c4
     obtain rfl := Option.some.inj H
     go_wp2
     go_ret
     exact ⟨by first | rfl | (simp [errW_none, errW_some] <;> rfl) | (simp [*, errW_none, errW_some] <;> rfl), by repeat (first | (with_reducible first | exact HB.out | apply zq2 | apply zq1 | apply zqd) | exact HB.out)⟩
def laws_szRoot.f (k : Nat) (a0_0 : Int) (l0_1 : List (S120)) (a1 : Int) : Option (Int) := (laws_szVolS.f k l0_1 a1).bind fun t423 => (if t423 < 0 then (some (-1)) else (some t423))
set_option maxHeartbeats 8000000 in
set_option maxRecDepth 100000 in
theorem laws_szRoot.calls (k : Nat) (a0_0 : Int) (A0_1 : Option Addr) (c0_1 : Nat) (l0_1 : List (S120)) (a1 : Int) (r : Int) (w : World) (hr0_1 : Kd.C k120 w A0_1 l0_1.length l0_1) (hc0_1 : l0_1.length ≤ c0_1) (h : laws_szRoot.f k a0_0 l0_1 a1 = some r) :
  Calls Try.prog 35 #[.agg #[.int .i64 a0_0, .slice A0_1 l0_1.length c0_1], .int .i64 a1] w fun e w' => e = .returned (.int .i64 r) ∧ Below w.heap.size w w' := by
 have hu52 := Try.underlying52
 have HR0_1 := Az.mk hr0_1
 have HC0_1 := Az.mk hc0_1
 clear hr0_1 hc0_1
 have HB := Az.mk (Below.refl w.heap.size w)
 have H : ((laws_szVolS.f k l0_1 a1).bind fun t423 => (if t423 < 0 then (some (-1)) else (some t423))) = some r := h
 clear h
 replace H := Option.bind_eq_some_iff.mp H
 obtain ⟨t423, A30, H⟩ := H
 replace H : (if t423 < 0 then (some (-1)) else (some t423)) = some r := H
 have A3 := Az.mk A30
 clear A30
 by_cases c4 : t423 < 0
 ·rw [if_pos c4] at H
  have c4b0 : decide (t423 < 0) = true := decide_eq_true c4
  clear c4
  obtain rfl := Option.some.inj H
  go_enter Try.func35, Try.ntmps35
  go_wp2_with (first | ((with_reducible refine zqg (N := 2) rfl ?_); refine zqb ?hg (N := 2) ?hd (cs := #[.int .i64 a0_0, .slice A0_1 l0_1.length c0_1]) (t := 52) ?hr ?_; (case hd => rfl); (case hg => rfl); (case hr => first | (go_simp; done) | (go_simp; rfl)); intro gb422 hg w5 hbox hb; have n0_ := Az.mk (below_step (by repeat (first | (with_reducible first | exact HB.out | apply zq2 | apply zq1 | apply zqd) | exact HB.out)) hb); have n1_ := Az.mk (hbox); have n2_ := Az.mk ((by rw [hg]; exact (below_size (by repeat (first | (with_reducible first | exact HB.out | apply zq2 | apply zq1 | apply zqd) | exact HB.out))) : w.heap.size ≤ gb422)); have n3_ := Az.mk ((by rw [hg]; exact (below_size (by repeat (first | (with_reducible first | exact HB.out | apply zq2 | apply zq1 | apply zqd) | exact HB.out))) : w.heap.size ≤ gb422)); clear HB; have HB := n0_; have BK422 := n1_; have GW422 := n2_; have GE422 := n3_; clear n0_ n1_ n2_ n3_; clear hb hbox hg; have hcz6_0 : w5.cell? ⟨gb422, 0, none⟩ = some (.int .i64 a0_0) := (zq4 BK422.out 0).trans rfl; have hcz6_1 : w5.cell? ⟨gb422, 1, none⟩ = some (.slice A0_1 l0_1.length c0_1) := (zq4 BK422.out 1).trans rfl; have hfz6_0 := zq5 BK422.out 0; have hfz6_1 := zq5 BK422.out 1) | ((with_reducible refine gate_callee (f := 74) rfl ?_); refine zq9 (some 8) rfl rfl Try.func74 (by kernel_rfl) rfl #[.slice A0_1 l0_1.length c0_1, .int .i64 a1] rfl (by (try simp only [List.map_toArray, List.map_cons, List.map_nil]); first | done | rfl | (simp only [List.length_drop, List.length_take]; rfl)) ?_; (with_reducible refine (laws_szVolS.calls k _ _ l0_1 a1 t423 _ ?side1 ?side2 A3.out).mono ?_); (case side1 => repeat (first | exact (Kd.C_below HR0_1.out HB.out) | (with_reducible refine Kd.C_alloc ?_ _) | (with_reducible refine Kd.C_drewN ?_ _) | (with_reducible refine Kd.C_drew ?_))); (case side2 => exact HC0_1.out); rintro e w7 ⟨rfl, hb⟩; refine ⟨_, rfl, ?_⟩; have n0_ := Az.mk (blk_below (g := gb422) (o := .cells #[.int .i64 a0_0, .slice A0_1 l0_1.length c0_1] 52 (0, 0)) (by (with_reducible repeat (first | refine zq6 ?_ _ | refine zq8 ?_ | refine zq7 ?_ _)); exact BK422.out) hb); have n1_ := Az.mk (below_step (by repeat (first | (with_reducible first | exact HB.out | apply zq2 | apply zq1 | apply zqd | refine zq3 ?_ GE422.out) | exact HB.out)) hb); clear BK422; clear HB; have BK422 := n0_; have HB := n1_; clear n0_ n1_; (try clear hb); (try clear hb2); (try clear hk); (try clear hi)))
  go_ret
  exact ⟨by first | rfl | (simp [errW_none, errW_some] <;> rfl) | (simp [*, errW_none, errW_some] <;> rfl), by repeat (first | (with_reducible first | exact HB.out | apply zq2 | apply zq1 | apply zqd | refine zq3 ?_ GE422.out) | exact HB.out)⟩
 ·rw [if_neg c4] at H
  have c4b0 : decide (t423 < 0) = false := decide_eq_false c4
  clear c4
  obtain rfl := Option.some.inj H
  go_enter Try.func35, Try.ntmps35
  go_wp2_with (first | ((with_reducible refine zqg (N := 2) rfl ?_); refine zqb ?hg (N := 2) ?hd (cs := #[.int .i64 a0_0, .slice A0_1 l0_1.length c0_1]) (t := 52) ?hr ?_; (case hd => rfl); (case hg => rfl); (case hr => first | (go_simp; done) | (go_simp; rfl)); intro gb422 hg w8 hbox hb; have n0_ := Az.mk (below_step (by repeat (first | (with_reducible first | exact HB.out | apply zq2 | apply zq1 | apply zqd) | exact HB.out)) hb); have n1_ := Az.mk (hbox); have n2_ := Az.mk ((by rw [hg]; exact (below_size (by repeat (first | (with_reducible first | exact HB.out | apply zq2 | apply zq1 | apply zqd) | exact HB.out))) : w.heap.size ≤ gb422)); have n3_ := Az.mk ((by rw [hg]; exact (below_size (by repeat (first | (with_reducible first | exact HB.out | apply zq2 | apply zq1 | apply zqd) | exact HB.out))) : w.heap.size ≤ gb422)); clear HB; have HB := n0_; have BK422 := n1_; have GW422 := n2_; have GE422 := n3_; clear n0_ n1_ n2_ n3_; clear hb hbox hg; have hcz9_0 : w8.cell? ⟨gb422, 0, none⟩ = some (.int .i64 a0_0) := (zq4 BK422.out 0).trans rfl; have hcz9_1 : w8.cell? ⟨gb422, 1, none⟩ = some (.slice A0_1 l0_1.length c0_1) := (zq4 BK422.out 1).trans rfl; have hfz9_0 := zq5 BK422.out 0; have hfz9_1 := zq5 BK422.out 1) | ((with_reducible refine gate_callee (f := 74) rfl ?_); refine zq9 (some 8) rfl rfl Try.func74 (by kernel_rfl) rfl #[.slice A0_1 l0_1.length c0_1, .int .i64 a1] rfl (by (try simp only [List.map_toArray, List.map_cons, List.map_nil]); first | done | rfl | (simp only [List.length_drop, List.length_take]; rfl)) ?_; (with_reducible refine (laws_szVolS.calls k _ _ l0_1 a1 t423 _ ?side1 ?side2 A3.out).mono ?_); (case side1 => repeat (first | exact (Kd.C_below HR0_1.out HB.out) | (with_reducible refine Kd.C_alloc ?_ _) | (with_reducible refine Kd.C_drewN ?_ _) | (with_reducible refine Kd.C_drew ?_))); (case side2 => exact HC0_1.out); rintro e w10 ⟨rfl, hb⟩; refine ⟨_, rfl, ?_⟩; have n0_ := Az.mk (blk_below (g := gb422) (o := .cells #[.int .i64 a0_0, .slice A0_1 l0_1.length c0_1] 52 (0, 0)) (by (with_reducible repeat (first | refine zq6 ?_ _ | refine zq8 ?_ | refine zq7 ?_ _)); exact BK422.out) hb); have n1_ := Az.mk (below_step (by repeat (first | (with_reducible first | exact HB.out | apply zq2 | apply zq1 | apply zqd | refine zq3 ?_ GE422.out) | exact HB.out)) hb); clear BK422; clear HB; have BK422 := n0_; have HB := n1_; clear n0_ n1_; (try clear hb); (try clear hb2); (try clear hk); (try clear hi)))
  go_ret
  exact ⟨by first | rfl | (simp [errW_none, errW_some] <;> rfl) | (simp [*, errW_none, errW_some] <;> rfl), by repeat (first | (with_reducible first | exact HB.out | apply zq2 | apply zq1 | apply zqd | refine zq3 ?_ GE422.out) | exact HB.out)⟩
end Go.Proofs.Ytkoimmeghdbodaa.Print
namespace Go.Proofs.Ytkoimmeghdbodaa.Pure
open Go.RowKit Go.Proofs.Ytkoimmeghdbodaa.Print Go.Proofs.YtkoimmeghdbodaaW.PrintWords Go.Proofs.YtkoimmeghdbodaaW.PrintLast
set_option linter.unusedSimpArgs false
set_option linter.unusedVariables false
theorem rd24n (l : List S24) (k : Nat) : rd_T24 l (k : Int) = l.getD k z24 := by simp [rd_T24]
theorem rd120n (l : List S120) (k : Nat) : rd_T120 l (k : Int) = l.getD k z120 := by simp [rd_T120]
theorem rd29n (l : List S29) (k : Nat) : rd_T29 l (k : Int) = l.getD k z29 := by simp [rd_T29]
theorem getD_some {α : Type} {l : List α} {z : α} {i : Nat} (h : i < l.length) : l[i]? = some (l.getD i z) := by
  rw [List.getD, List.getElem?_eq_getElem h]; rfl
theorem szPlace_ev (l : List S94) (hl : l.length ≤ maxLen) (n : Int) (h0 : 0 ≤ n) (h1 : n ≤ 1048576) : ∃ t : Int, laws_szPlaceS.f l n = some t ∧ t ≤ n ∧ (¬ t < 0 → l.length ≤ 1048576) := by
  have hM : maxLen = 9223372036854775807 := by decide
  have e : wrap64 (n - (l.length : Int)) = n - (l.length : Int) := wrap_ok (by omega)
  unfold laws_szPlaceS.f
  rw [e]
  by_cases h : n - (l.length : Int) < 0
  · exact ⟨-1, by rw [if_pos h], by omega, by omega⟩
  · exact ⟨_, by rw [if_neg h], by omega, by omega⟩
theorem szPtr_ev (x : S24) (hl : x.f2.length ≤ maxLen) (n : Int) (h0 : 0 ≤ n) (h1 : n ≤ 1048576) : ∃ t : Int, laws_szPtr.f x.f0 x.f1 x.f2 n = some t ∧ t ≤ n ∧ (¬ t < 0 → x.f2.length ≤ 1048576) := by
  obtain ⟨t, ht, hle, hb⟩ := szPlace_ev x.f2 hl n h0 h1
  unfold laws_szPtr.f
  rw [ht, Option.bind_some]
  by_cases h : t < 0
  · exact ⟨-1, by rw [if_pos h], by omega, by omega⟩
  · exact ⟨t, by rw [if_neg h], hle, hb⟩
def Wl24 (x : S24) : Prop := x.f2.length ≤ maxLen
def Fit24 (x : S24) : Prop := x.f2.length ≤ 1048576
theorem szPtrS_l0 (l : List S24) (hl : l.length ≤ 1048576) (hs : ∀ x ∈ l, Wl24 x) (d : Nat) : ∀ (i : Nat) (n : Int), i + d = l.length → 0 ≤ n → n ≤ 1048576 →
    ∃ t : Int, Ev (fun k => laws_szPtrS.l0 k l n (i : Int)) t ∧ t ≤ n ∧ (¬ t < 0 → ∀ j : Nat, i ≤ j → j < l.length → Fit24 (l.getD j z24)) := by
  induction d with
  | zero =>
    intro i n hi _ _
    refine ⟨n, Ev.next ?_, Int.le_refl _, fun _ j h1 h2 => by omega⟩
    simp only [laws_szPtrS.l0]
    exact Ev.neg (by omega) (Ev.ret rfl)
  | succ d ih =>
    intro i n hi h0 h1
    have e : wrap64 ((i : Int) + 1) = ((i + 1 : Nat) : Int) := by rw [wrap_ok (by omega)]; omega
    obtain ⟨t, ht, hle, hb⟩ := szPtr_ev (l.getD i z24) (hs _ (getD_mem (by omega))) n h0 h1
    by_cases hneg : t < 0
    · refine ⟨-1, Ev.next ?_, by omega, by omega⟩
      simp only [laws_szPtrS.l0, e, rd24n]
      clear e
      exact Ev.pos (by omega) (Ev.pos (by omega) (Ev.take ht (Ev.pos hneg (Ev.ret rfl))))
    · obtain ⟨u, hu, hle2, hj⟩ := ih (i + 1) t (by omega) (by omega) (by omega)
      refine ⟨u, Ev.next ?_, by omega, fun h j h1 h2 => ?_⟩
      · simp only [laws_szPtrS.l0, e, rd24n]
        clear e
        exact Ev.pos (by omega) (Ev.pos (by omega) (Ev.take ht (Ev.neg hneg hu)))
      · by_cases e : j = i
        · rw [e]; exact hb hneg
        · exact hj h j (by omega) h2
theorem szPtrS_ev (l : List S24) (hl : l.length ≤ maxLen) (hs : ∀ x ∈ l, Wl24 x) (n : Int) (h0 : 0 ≤ n) (h1 : n ≤ 1048576) :
    ∃ t : Int, Ev (fun k => laws_szPtrS.f k l n) t ∧ t ≤ n ∧ (¬ t < 0 → l.length ≤ 1048576 ∧ ∀ x ∈ l, Fit24 x) := by
  have hM : maxLen = 9223372036854775807 := by decide
  have e : wrap64 (n - (l.length : Int)) = n - (l.length : Int) := wrap_ok (by omega)
  unfold laws_szPtrS.f
  simp only [e]
  clear e
  by_cases h : n - (l.length : Int) < 0
  · exact ⟨-1, Ev.pos h (Ev.ret rfl), by omega, by omega⟩
  · obtain ⟨t, ht, hle, hj⟩ := szPtrS_l0 l (by omega) hs l.length 0 (n - (l.length : Int)) (Nat.zero_add _) (by omega) (by omega)
    refine ⟨t, Ev.neg h ht, by omega, fun hn => ⟨by omega, fun x hx => ?_⟩⟩
    obtain ⟨j, hj2, rfl⟩ := List.getElem_of_mem hx
    have := hj hn j (Nat.zero_le _) hj2
    simpa [List.getD, hj2] using this
def Wl120 (x : S120) : Prop := x.f0.size ≤ maxLen ∧ x.f1.length ≤ maxLen ∧ ∀ y ∈ x.f1, Wl24 y
def Fit120 (x : S120) : Prop := x.f1.length ≤ 1048576 ∧ ∀ y ∈ x.f1, Fit24 y
theorem szVol_ev (x : S120) (hx : Wl120 x) (n : Int) (h0 : 0 ≤ n) (h1 : n ≤ 1048576) : ∃ t : Int, Ev (fun k => laws_szVol.f k x.f0 x.f1 n) t ∧ t ≤ n ∧ (¬ t < 0 → Fit120 x) := by
  have hM : maxLen = 9223372036854775807 := by decide
  have hs := hx.1
  have e : wrap64 (n - (x.f0.size : Int)) = n - (x.f0.size : Int) := wrap_ok (by omega)
  unfold laws_szVol.f
  simp only [e]
  clear e
  by_cases h : n - (x.f0.size : Int) < 0
  · exact ⟨-1, Ev.pos h (Ev.ret rfl), by omega, by omega⟩
  · obtain ⟨t, ht, hle, hb⟩ := szPtrS_ev x.f1 hx.2.1 hx.2.2 (n - (x.f0.size : Int)) (by omega) (by omega)
    by_cases hn : t < 0
    · exact ⟨-1, Ev.neg h (Ev.bind ht (Ev.pos hn (Ev.ret rfl))), by omega, by omega⟩
    · exact ⟨t, Ev.neg h (Ev.bind ht (Ev.neg hn (Ev.ret rfl))), by omega, hb⟩
theorem szVolS_l0 (l : List S120) (hl : l.length ≤ 1048576) (hs : ∀ x ∈ l, Wl120 x) (d : Nat) : ∀ (i : Nat) (n : Int), i + d = l.length → 0 ≤ n → n ≤ 1048576 →
    ∃ t : Int, Ev (fun k => laws_szVolS.l0 k l n (i : Int)) t ∧ t ≤ n ∧ (¬ t < 0 → ∀ j : Nat, i ≤ j → j < l.length → Fit120 (l.getD j z120)) := by
  induction d with
  | zero =>
    intro i n hi _ _
    refine ⟨n, Ev.next ?_, Int.le_refl _, fun _ j h1 h2 => by omega⟩
    simp only [laws_szVolS.l0]
    exact Ev.neg (by omega) (Ev.ret rfl)
  | succ d ih =>
    intro i n hi h0 h1
    have e : wrap64 ((i : Int) + 1) = ((i + 1 : Nat) : Int) := by rw [wrap_ok (by omega)]; omega
    obtain ⟨t, ht, hle, hb⟩ := szVol_ev (l.getD i z120) (hs _ (getD_mem (by omega))) n h0 h1
    by_cases hneg : t < 0
    · refine ⟨-1, Ev.next ?_, by omega, by omega⟩
      simp only [laws_szVolS.l0, e, rd120n]
      clear e
      exact Ev.pos (by omega) (Ev.pos (by omega) (Ev.bind ht (Ev.pos hneg (Ev.ret rfl))))
    · obtain ⟨u, hu, hle2, hj⟩ := ih (i + 1) t (by omega) (by omega) (by omega)
      refine ⟨u, Ev.next ?_, by omega, fun h j h1 h2 => ?_⟩
      · simp only [laws_szVolS.l0, e, rd120n]
        clear e
        exact Ev.pos (by omega) (Ev.pos (by omega) (Ev.bind ht (Ev.neg hneg hu)))
      · by_cases e : j = i
        · rw [e]; exact hb hneg
        · exact hj h j (by omega) h2
theorem szVolS_ev (l : List S120) (hl : l.length ≤ maxLen) (hs : ∀ x ∈ l, Wl120 x) (n : Int) (h0 : 0 ≤ n) (h1 : n ≤ 1048576) :
    ∃ t : Int, Ev (fun k => laws_szVolS.f k l n) t ∧ t ≤ n ∧ (¬ t < 0 → l.length ≤ 1048576 ∧ ∀ x ∈ l, Fit120 x) := by
  have hM : maxLen = 9223372036854775807 := by decide
  have e : wrap64 (n - (l.length : Int)) = n - (l.length : Int) := wrap_ok (by omega)
  unfold laws_szVolS.f
  simp only [e]
  clear e
  by_cases h : n - (l.length : Int) < 0
  · exact ⟨-1, Ev.pos h (Ev.ret rfl), by omega, by omega⟩
  · obtain ⟨t, ht, hle, hj⟩ := szVolS_l0 l (by omega) hs l.length 0 (n - (l.length : Int)) (Nat.zero_add _) (by omega) (by omega)
    refine ⟨t, Ev.neg h ht, by omega, fun hn => ⟨by omega, fun x hx => ?_⟩⟩
    obtain ⟨j, hj2, rfl⟩ := List.getElem_of_mem hx
    have := hj hn j (Nat.zero_le _) hj2
    simpa [List.getD, hj2] using this
structure FitR (l : List S120) : Prop where
  len : l.length ≤ 1048576
  vols : ∀ x ∈ l, Fit120 x
theorem szRoot_ev (tx : Int) (l : List S120) (hl : l.length ≤ maxLen) (hs : ∀ x ∈ l, Wl120 x) (n : Int) (h0 : 0 ≤ n) (h1 : n ≤ 1048576) : ∃ t : Int, Ev (fun k => laws_szRoot.f k tx l n) t ∧ t ≤ n ∧ (¬ t < 0 → FitR l) := by
  unfold laws_szRoot.f
  obtain ⟨t, ht, hle, hb⟩ := szVolS_ev l hl hs n h0 h1
  by_cases hn : t < 0
  · exact ⟨-1, Ev.bind ht (Ev.pos hn (Ev.ret rfl)), by omega, by omega⟩
  · exact ⟨t, Ev.bind ht (Ev.neg hn (Ev.ret rfl)), hle, fun h => ⟨(hb h).1, (hb h).2⟩⟩
theorem toPtr_ev (s m : Int) (l : List S94) (hl : l.length ≤ 1048576) : Ev (fun k => laws_toPtr.f k s m l) (s, m, pls l) := by
  unfold laws_toPtr.f
  exact Ev.bind (toPlaceS_ev l hl) (Ev.ret rfl)
def ptC (x : S24) : S29 := ⟨x.f0, x.f1, pls x.f2⟩
def voC (x : S120) : S65 := ⟨x.f0, x.f1.map ptC⟩
theorem map_ptC (l : List S24) (i : Nat) (h : i < l.length) : (l.map ptC).getD i z29 = ptC (l.getD i z24) := by
  simp [List.getD, h]
theorem toPtrS_l0 (l : List S24) (hl : l.length ≤ 1048576) (hF : ∀ x ∈ l, Fit24 x) (d : Nat) : ∀ i : Nat, i + d = l.length →
    Ev (fun k => laws_toPtrS.l0 k l ((l.map ptC).take i ++ List.replicate ((l.map ptC).length - i) z29) (i : Int)) (l.map ptC) := by
  have hlm : (l.map ptC).length = l.length := List.length_map _
  induction d with
  | zero =>
    intro i hi
    refine Ev.next ?_
    simp only [laws_toPtrS.l0]
    have hil : i = (l.map ptC).length := by omega
    subst hil
    exact Ev.neg (by omega) (Ev.ret (fill_end _ _))
  | succ d ih =>
    intro i hi
    have e : wrap64 ((i : Int) + 1) = ((i + 1 : Nat) : Int) := by rw [wrap_ok (by omega)]; omega
    have hih := ih (i + 1) (by omega)
    have hlen := fill_len (l.map ptC) z29 i (by omega)
    have ht := toPtr_ev (l.getD i z24).f0 (l.getD i z24).f1 (l.getD i z24).f2 (hF _ (getD_mem (by omega)))
    have hx : (l.map ptC)[i]? = some (ptC (l.getD i z24)) := by
      rw [getD_some (z := z29) (by omega), map_ptC l i (by omega)]
    refine Ev.next ?_
    simp only [laws_toPtrS.l0, e, rd24n, Int.toNat_natCast]
    clear e
    refine Ev.pos (by omega) (Ev.pos (by omega) (Ev.bind ht (Ev.pos (by omega) ?_)))
    rw [← fill_set (l.map ptC) z29 _ i hx] at hih
    exact hih
theorem toPtrS_ev (l : List S24) (hl : l.length ≤ 1048576) (hF : ∀ x ∈ l, Fit24 x) : Ev (fun k => laws_toPtrS.f k l) (l.map ptC) := by
  have hlm : (l.map ptC).length = l.length := List.length_map _
  have h := toPtrS_l0 l hl hF l.length 0 (Nat.zero_add _)
  rw [hlm] at h
  simp only [List.take_zero, List.nil_append, Nat.sub_zero] at h
  unfold laws_toPtrS.f
  simp only [Int.toNat_natCast]
  exact Ev.pos (by omega) (Ev.pos (by omega) h)
theorem toVol_ev (x : S120) (h : Fit120 x) : Ev (fun k => laws_toVol.f k x.f0 x.f1) (x.f0, x.f1.map ptC) := by
  unfold laws_toVol.f
  exact Ev.bind (toPtrS_ev x.f1 h.1 h.2) (Ev.ret rfl)
theorem map_voC (l : List S120) (i : Nat) (h : i < l.length) : (l.map voC).getD i z65 = voC (l.getD i z120) := by
  simp [List.getD, h]
theorem toVolS_l0 (l : List S120) (hl : l.length ≤ 1048576) (hF : ∀ x ∈ l, Fit120 x) (d : Nat) : ∀ i : Nat, i + d = l.length →
    Ev (fun k => laws_toVolS.l0 k l ((l.map voC).take i ++ List.replicate ((l.map voC).length - i) z65) (i : Int)) (l.map voC) := by
  have hlm : (l.map voC).length = l.length := List.length_map _
  induction d with
  | zero =>
    intro i hi
    refine Ev.next ?_
    simp only [laws_toVolS.l0]
    have hil : i = (l.map voC).length := by omega
    subst hil
    exact Ev.neg (by omega) (Ev.ret (fill_end _ _))
  | succ d ih =>
    intro i hi
    have e : wrap64 ((i : Int) + 1) = ((i + 1 : Nat) : Int) := by rw [wrap_ok (by omega)]; omega
    have hih := ih (i + 1) (by omega)
    have hlen := fill_len (l.map voC) z65 i (by omega)
    have ht := toVol_ev (l.getD i z120) (hF _ (getD_mem (by omega)))
    have hx : (l.map voC)[i]? = some (voC (l.getD i z120)) := by
      rw [getD_some (z := z65) (by omega), map_voC l i (by omega)]
    refine Ev.next ?_
    simp only [laws_toVolS.l0, e, rd120n, Int.toNat_natCast]
    clear e
    refine Ev.pos (by omega) (Ev.pos (by omega) (Ev.bind ht (Ev.pos (by omega) ?_)))
    rw [← fill_set (l.map voC) z65 _ i hx] at hih
    exact hih
theorem toVolS_ev (l : List S120) (hl : l.length ≤ 1048576) (hF : ∀ x ∈ l, Fit120 x) : Ev (fun k => laws_toVolS.f k l) (l.map voC) := by
  have hlm : (l.map voC).length = l.length := List.length_map _
  have h := toVolS_l0 l hl hF l.length 0 (Nat.zero_add _)
  rw [hlm] at h
  simp only [List.take_zero, List.nil_append, Nat.sub_zero] at h
  unfold laws_toVolS.f
  simp only [Int.toNat_natCast]
  exact Ev.pos (by omega) (Ev.pos (by omega) h)
theorem toRoot_ev (tx : Int) (l : List S120) (h : FitR l) : Ev (fun k => laws_toRoot.f k tx l) (tx, l.map voC) := by
  unfold laws_toRoot.f
  exact Ev.bind (toVolS_ev l h.len h.vols) (Ev.ret rfl)
structure FitM (l : List S65) : Prop where
  len : l.length ≤ 1048576
  ptrs : ∀ x ∈ l, x.f1.length ≤ 1048576
  places : ∀ x ∈ l, ∀ y ∈ x.f1, y.f2.length ≤ 1048576
theorem FitR.map {l : List S120} (h : FitR l) : FitM (l.map voC) := by
  refine ⟨by rw [List.length_map]; exact h.len, fun x hx => ?_, fun x hx y hy => ?_⟩
  · obtain ⟨u, hu, rfl⟩ := List.mem_map.1 hx
    simp only [voC, List.length_map]
    exact (h.vols u hu).1
  · obtain ⟨u, hu, rfl⟩ := List.mem_map.1 hx
    obtain ⟨v, hv, rfl⟩ := List.mem_map.1 hy
    simp only [ptC, pls_length]
    exact (h.vols u hu).2 v hv
theorem eqPtrS_l0 (l : List S29) (hl : l.length ≤ 1048576) (hF : ∀ x ∈ l, x.f2.length ≤ 1048576) (d : Nat) : ∀ i : Nat, i + d = l.length → Ev (fun k => laws_eqPtrS.l0 k l l (i : Int)) true := by
  induction d with
  | zero =>
    intro i hi
    refine Ev.next ?_
    simp only [laws_eqPtrS.l0]
    exact Ev.neg (by omega) (Ev.ret rfl)
  | succ d ih =>
    intro i hi
    have e : wrap64 ((i : Int) + 1) = ((i + 1 : Nat) : Int) := by rw [wrap_ok (by omega)]; omega
    have hih := ih (i + 1) (by omega)
    have hx := hF _ (getD_mem (z := z29) (i := i) (l := l) (by omega))
    refine Ev.next ?_
    simp only [laws_eqPtrS.l0, e, rd29n]
    clear e
    exact Ev.pos (by omega) (Ev.pos (by omega) (Ev.pos (by omega) (Ev.bind (eqPtr_ev _ _ _ hx) (Ev.pos rfl hih))))
theorem eqPtrS_ev (l : List S29) (hl : l.length ≤ 1048576) (hF : ∀ x ∈ l, x.f2.length ≤ 1048576) : Ev (fun k => laws_eqPtrS.f k l l) true := by
  unfold laws_eqPtrS.f
  exact Ev.pos rfl (eqPtrS_l0 l hl hF _ 0 (Nat.zero_add _))
theorem eqVol_ev (x : S65) (hl : x.f1.length ≤ 1048576) (h : ∀ y ∈ x.f1, y.f2.length ≤ 1048576) : Ev (fun k => laws_eqVol.f k x.f0 x.f1 x.f0 x.f1) true := by
  unfold laws_eqVol.f
  exact Ev.pos rfl (Ev.bind (eqPtrS_ev x.f1 hl h) (Ev.pos rfl (Ev.ret rfl)))
theorem eqVolS_l0 (l : List S65) (hl : l.length ≤ 1048576) (hF : ∀ x ∈ l, (x.f1.length ≤ 1048576 ∧ ∀ y ∈ x.f1, y.f2.length ≤ 1048576)) (d : Nat) : ∀ i : Nat, i + d = l.length → Ev (fun k => laws_eqVolS.l0 k l l (i : Int)) true := by
  induction d with
  | zero =>
    intro i hi
    refine Ev.next ?_
    simp only [laws_eqVolS.l0]
    exact Ev.neg (by omega) (Ev.ret rfl)
  | succ d ih =>
    intro i hi
    have e : wrap64 ((i : Int) + 1) = ((i + 1 : Nat) : Int) := by rw [wrap_ok (by omega)]; omega
    have hih := ih (i + 1) (by omega)
    have hx := hF _ (getD_mem (z := z65) (i := i) (l := l) (by omega))
    refine Ev.next ?_
    simp only [laws_eqVolS.l0, e, rd65n]
    clear e
    exact Ev.pos (by omega) (Ev.pos (by omega) (Ev.pos (by omega) (Ev.bind (eqVol_ev _ hx.1 hx.2) (Ev.pos rfl hih))))
theorem eqVolS_ev (l : List S65) (hl : l.length ≤ 1048576) (hF : ∀ x ∈ l, (x.f1.length ≤ 1048576 ∧ ∀ y ∈ x.f1, y.f2.length ≤ 1048576)) : Ev (fun k => laws_eqVolS.f k l l) true := by
  unfold laws_eqVolS.f
  exact Ev.pos rfl (eqVolS_l0 l hl hF _ 0 (Nat.zero_add _))
theorem eqRoot_ev (tx : Int) (l : List S65) (h : FitM l) : Ev (fun k => laws_eqRoot.f k tx l tx l) true := by
  unfold laws_eqRoot.f
  exact Ev.pos rfl (Ev.bind (eqVolS_ev l h.len (fun x hx => ⟨h.ptrs x hx, h.places x hx⟩)) (Ev.pos rfl (Ev.ret rfl)))
end Go.Proofs.Ytkoimmeghdbodaa.Pure
namespace Go.Proofs.Ytkoimmeghdbodaa.Pure
open Go.RowKit Go.Proofs.Ytkoimmeghdbodaa.Print Go.Proofs.YtkoimmeghdbodaaW.PrintWords Go.Proofs.YtkoimmeghdbodaaW.PrintLast
set_option linter.unusedSimpArgs false
set_option linter.unusedVariables false
theorem volB_iff {s : ByteArray} (h : 1 ≤ s.size ∧ s.size ≤ 3) : volB s = true ↔ ∀ j : Nat, j < s.size → letB (bt s (j : Int)) = true := by
  unfold volB
  rw [decide_eq_true h, Bool.true_and, List.all_eq_true]
  exact ⟨fun x j hj => x j (List.mem_range.2 hj), fun x j hj => x j (List.mem_range.1 hj)⟩
theorem l2Name_l0 (s : ByteArray) (h : 1 ≤ s.size ∧ s.size ≤ 3) (d : Nat) : ∀ i : Nat, i + d = s.size → (∀ j : Nat, j < i → letB (bt s (j : Int)) = true) → Ev (fun k => spec_l2Name.l0 k s (i : Int)) (volB s) := by
  induction d with
  | zero =>
    intro i hi hj
    refine Ev.next ?_
    simp only [spec_l2Name.l0]
    exact Ev.neg (by omega) (Ev.ret ((volB_iff h).2 fun j hj2 => hj j (by omega)).symm)
  | succ d ih =>
    intro i hi hj
    have e : wrap64 ((i : Int) + 1) = ((i + 1 : Nat) : Int) := by rw [wrap_ok (by omega)]; omega
    refine Ev.next ?_
    simp only [spec_l2Name.l0, e]
    clear e
    refine Ev.pos (by omega) (Ev.pos (by omega) ?_)
    have bad : letB (bt s (i : Int)) = false → volB s = false := fun hb => by
      rw [Bool.eq_false_iff]
      intro hv
      have := (volB_iff h).1 hv i (by omega)
      rw [hb] at this
      cases this
    by_cases c1 : bt s (i : Int) < 97
    · exact Ev.pos c1 (Ev.ret (bad (decide_eq_false (by omega))).symm)
    · by_cases c2 : bt s (i : Int) > 122
      · exact Ev.neg c1 (Ev.pos c2 (Ev.ret (bad (decide_eq_false (by omega))).symm))
      · refine Ev.neg c1 (Ev.neg c2 (ih (i + 1) (by omega) fun j hj2 => ?_))
        by_cases e : j = i
        · rw [e]; exact decide_eq_true (by omega)
        · exact hj j (by omega)
theorem l2Name_ev (s : ByteArray) : Ev (fun k => spec_l2Name.f k s) (volB s) := by
  unfold spec_l2Name.f
  refine Ev.take (l6In_eq _ _ _) ?_
  by_cases h : 1 ≤ s.size ∧ s.size ≤ 3
  · exact Ev.pos (decide_eq_true (by omega)) (l2Name_l0 s h s.size 0 (Nat.zero_add _) (fun j hj => by omega))
  · exact Ev.neg (by rw [decide_eq_true_iff]; omega) (Ev.ret (vol_long h).symm)
theorem decide_and' {p q : Prop} [Decidable p] [Decidable q] : decide (p ∧ q) = (decide p && decide q) := by by_cases hp : p <;> by_cases hq : q <;> simp [hp, hq]
theorem drop_getD {α : Type} (l : List α) (z : α) (i : Nat) (h : i < l.length) : l.drop i = l.getD i z :: l.drop (i + 1) := by
  rw [List.drop_eq_getElem_cons h, List.getD, List.getElem?_eq_getElem h]
  rfl
theorem eq37 (x y : S37) : (x.f0 == y.f0 && (x.f1 == y.f1)) = decide (x = y) := by
  by_cases h : x = y
  · rw [h, decide_eq_true rfl]
    simp
  · rw [decide_eq_false h, Bool.and_eq_false_iff]
    by_cases h0 : x.f0 = y.f0
    · right
      rw [beq_eq_false_iff_ne]
      intro h1
      exact h (by cases x; cases y; simp only at h0 h1; rw [h0, h1])
    · left
      rwa [beq_eq_false_iff_ne]
def meetB (a b : List S37) : Bool := a.any fun x => b.any fun y => decide (x = y)
theorem meetB_iff (a b : List S37) : meetB a b = true ↔ ∃ x, x ∈ a ∧ x ∈ b := by
  unfold meetB
  rw [List.any_eq_true]
  constructor
  · rintro ⟨x, hx, h⟩
    obtain ⟨y, hy, h2⟩ := List.any_eq_true.1 h
    exact ⟨x, hx, by rw [of_decide_eq_true h2]; exact hy⟩
  · rintro ⟨x, hx, h⟩
    exact ⟨x, hx, List.any_eq_true.2 ⟨x, h, decide_eq_true rfl⟩⟩
theorem meet_l1 (s m : Int) (a : List S37) (s2 m2 : Int) (b : List S37) (ha : a.length ≤ 1048576) (hb : b.length ≤ 1048576) (i : Nat) (hi : i < a.length) {r : Bool} (k : Ev (fun k => spec_l2Meet.l0 k ((i + 1 : Nat) : Int) s m a s2 m2 b) r) (d : Nat) :
    ∀ j : Nat, j + d = b.length → Ev (fun k => spec_l2Meet.l1 k (i : Int) (j : Int) s m a s2 m2 b) (((b.drop j).any fun y => decide (a.getD i z37 = y)) || r) := by
  have e : wrap64 ((i : Int) + 1) = ((i + 1 : Nat) : Int) := by rw [wrap_ok (by omega)]; omega
  induction d with
  | zero =>
    intro j hj
    refine Ev.next ?_
    simp only [spec_l2Meet.l1, e]
    clear e
    refine Ev.neg (by omega) ?_
    rw [List.drop_of_length_le (by omega)]
    exact k
  | succ d ih =>
    intro j hj
    have e2 : wrap64 ((j : Int) + 1) = ((j + 1 : Nat) : Int) := by rw [wrap_ok (by omega)]; omega
    have hih := ih (j + 1) (by omega)
    rw [drop_getD b z37 j (by omega), List.any_cons]
    refine Ev.next ?_
    simp only [spec_l2Meet.l1, e2, rd37n, eq37]
    clear e e2
    refine Ev.pos (by omega) (Ev.pos (by omega) (Ev.pos (by omega) (Ev.pos (by omega) ?_)))
    by_cases c : a.getD i z37 = b.getD j z37
    · exact Ev.pos (decide_eq_true c) (Ev.ret (by rw [decide_eq_true c]; rfl))
    · refine Ev.neg (by rw [decide_eq_true_iff]; exact c) ?_
      rw [decide_eq_false c, Bool.false_or]
      exact hih
theorem meet_l0 (s m : Int) (a : List S37) (s2 m2 : Int) (b : List S37) (ha : a.length ≤ 1048576) (hb : b.length ≤ 1048576) (d : Nat) :
    ∀ i : Nat, i + d = a.length → Ev (fun k => spec_l2Meet.l0 k (i : Int) s m a s2 m2 b) (meetB (a.drop i) b) := by
  induction d with
  | zero =>
    intro i hi
    refine Ev.next ?_
    simp only [spec_l2Meet.l0]
    exact Ev.neg (by omega) (Ev.ret (by rw [List.drop_of_length_le (by omega)]; rfl))
  | succ d ih =>
    intro i hi
    have h := meet_l1 s m a s2 m2 b ha hb i (by omega) (ih (i + 1) (by omega)) b.length 0 (Nat.zero_add _)
    rw [List.drop_zero] at h
    refine Ev.next ?_
    simp only [spec_l2Meet.l0]
    refine Ev.pos (by omega) ?_
    unfold meetB at h ⊢
    rw [drop_getD a z37 i (by omega), List.any_cons]
    exact h
theorem meet_ev (a b : S29) (ha : a.f2.length ≤ 1048576) (hb : b.f2.length ≤ 1048576) : Ev (fun k => spec_l2Meet.f k a.f0 a.f1 a.f2 b.f0 b.f1 b.f2) (meetB a.f2 b.f2) := by
  unfold spec_l2Meet.f
  exact meet_l0 a.f0 a.f1 a.f2 b.f0 b.f1 b.f2 ha hb a.f2.length 0 (Nat.zero_add _)
theorem same_l0 (s m : Int) (a : List S37) (s2 m2 : Int) (b : List S37) (ha : a.length ≤ 1048576) (hl : a.length = b.length) (d : Nat) :
    ∀ i : Nat, i + d = a.length → Ev (fun k => spec_l2Same.l0 k (i : Int) s m a s2 m2 b) (decide (a.drop i = b.drop i)) := by
  induction d with
  | zero =>
    intro i hi
    refine Ev.next ?_
    simp only [spec_l2Same.l0]
    exact Ev.neg (by omega) (Ev.ret (by rw [List.drop_of_length_le (by omega), List.drop_of_length_le (by omega), decide_eq_true rfl]))
  | succ d ih =>
    intro i hi
    have e : wrap64 ((i : Int) + 1) = ((i + 1 : Nat) : Int) := by rw [wrap_ok (by omega)]; omega
    have hih := ih (i + 1) (by omega)
    rw [drop_getD a z37 i (by omega), drop_getD b z37 i (by omega)]
    have key : (!((a.getD i z37).f0 == (b.getD i z37).f0) || (!((a.getD i z37).f1 == (b.getD i z37).f1))) = !(decide (a.getD i z37 = b.getD i z37)) := by
      rw [← eq37, Bool.not_and]
    refine Ev.next ?_
    simp only [spec_l2Same.l0, e, rd37n, key]
    clear e key
    refine Ev.pos (by omega) (Ev.pos (by omega) (Ev.pos (by omega) ?_))
    by_cases c : a.getD i z37 = b.getD i z37
    · refine Ev.neg (by rw [decide_eq_true c]; simp) ?_
      rw [c]
      have : (b.getD i z37 :: a.drop (i + 1) = b.getD i z37 :: b.drop (i + 1)) ↔ a.drop (i + 1) = b.drop (i + 1) := by simp
      simp only [this]
      exact hih
    · exact Ev.pos (by rw [decide_eq_false c]; rfl) (Ev.ret (by rw [decide_eq_false]; intro h; exact c (List.cons.inj h).1))
theorem specSame_ev (a b : S29) (ha : a.f2.length ≤ 1048576) : Ev (fun k => spec_l2Same.f k a.f0 a.f1 a.f2 b.f0 b.f1 b.f2) (sameB a b) := by
  unfold spec_l2Same.f sameB
  have bad : Ev (fun k => spec_l2Same.j0 k true a.f0 a.f1 a.f2 b.f0 b.f1 b.f2) false := by
    refine Ev.next ?_
    simp only [spec_l2Same.j0]
    exact Ev.pos trivial (Ev.ret rfl)
  by_cases h0 : a.f0 = b.f0
  · rw [decide_eq_true h0, Bool.true_and]
    refine Ev.pos h0 ?_
    by_cases h1 : a.f1 = b.f1
    · rw [decide_eq_true h1, Bool.true_and]
      refine Ev.pos h1 ?_
      refine Ev.next ?_
      simp only [spec_l2Same.j0]
      by_cases h2 : a.f2.length = b.f2.length
      · refine Ev.neg (by simp [h2]) ?_
        exact same_l0 a.f0 a.f1 a.f2 b.f0 b.f1 b.f2 ha h2 a.f2.length 0 (Nat.zero_add _)
      · refine Ev.pos (by rw [bne_iff_ne]; omega) (Ev.ret ?_)
        rw [decide_eq_false]
        intro h
        exact h2 (by rw [h])
    · rw [decide_eq_false h1, Bool.false_and]
      exact Ev.neg h1 bad
  · rw [decide_eq_false h0, Bool.false_and]
    exact Ev.neg h0 bad
theorem all_l0 (tx : Int) (vs : List S65) (hl : vs.length ≤ 4) (h3 : ∀ x ∈ vs, x.f1.length = 3) (d : Nat) : ∀ i : Nat, i + d = vs.length → Ev (fun k => spec_l2All.l0 k (ptrs (vs.take i)) (i : Int) tx vs) (ptrs vs) := by
  induction d with
  | zero =>
    intro i hi
    refine Ev.next ?_
    simp only [spec_l2All.l0]
    exact Ev.neg (by omega) (Ev.ret (by rw [List.take_of_length_le (by omega)]))
  | succ d ih =>
    intro i hi
    have e : wrap64 ((i : Int) + 1) = ((i + 1 : Nat) : Int) := by rw [wrap_ok (by omega)]; omega
    have hih := ih (i + 1) (by omega)
    have hn : ptrs (vs.take (i + 1)) = ptrs (vs.take i) ++ (vs.getD i z65).f1 := by
      unfold ptrs
      rw [take65 vs i (by omega), List.flatMap_append]
      simp
    rw [hn] at hih
    have hb := h3 _ (getD_mem (z := z65) (i := i) (l := vs) (by omega))
    have hp := ptrs_take_len h3 i (by omega)
    refine Ev.next ?_
    simp only [spec_l2All.l0, e, rd65n]
    clear e
    exact Ev.pos (by omega) (Ev.pos (by omega) (Ev.pos (by omega) hih))
theorem all_ev (tx : Int) (vs : List S65) (hl : vs.length ≤ 4) (h3 : ∀ x ∈ vs, x.f1.length = 3) : Ev (fun k => spec_l2All.f k tx vs) (ptrs vs) := by
  unfold spec_l2All.f
  exact all_l0 tx vs hl h3 vs.length 0 (Nat.zero_add _)
def pairB (p q : S29) : Bool := !meetB p.f2 q.f2 || sameB p q
def ptrAt (n : Int) (ps : List S29) (i : Nat) : Bool := ptrC n (ps.getD i z29) && decide (∀ q, q < i → pairB (ps.getD i z29) (ps.getD q z29) = true)
theorem pairs_l3 (n : Int) (ps : List S29) (hl : ps.length ≤ 1048576) (hF : ∀ p ∈ ps, p.f2.length ≤ 1048576) (i : Nat) (hi : i < ps.length) {r : Bool} (k : Ev (fun k => spec_l2Vols.l2 k n ps ((i + 1 : Nat) : Int)) r) (d : Nat) :
    ∀ j : Nat, j + d = i → Ev (fun k => spec_l2Vols.l3 k n ps (i : Int) (j : Int)) (decide (∀ q, q < i → j ≤ q → pairB (ps.getD i z29) (ps.getD q z29) = true) && r) := by
  have e : wrap64 ((i : Int) + 1) = ((i + 1 : Nat) : Int) := by rw [wrap_ok (by omega)]; omega
  have hpi := hF _ (getD_mem (z := z29) (i := i) (l := ps) (by omega))
  induction d with
  | zero =>
    intro j hj
    refine Ev.next ?_
    simp only [spec_l2Vols.l3, e]
    clear e
    refine Ev.neg (by omega) ?_
    rw [decide_eq_true (fun q h1 h2 => by omega), Bool.true_and]
    exact k
  | succ d ih =>
    intro j hj
    have e2 : wrap64 ((j : Int) + 1) = ((j + 1 : Nat) : Int) := by rw [wrap_ok (by omega)]; omega
    have hih := ih (j + 1) (by omega)
    have hpj := hF _ (getD_mem (z := z29) (i := j) (l := ps) (by omega))
    refine Ev.next ?_
    simp only [spec_l2Vols.l3, e2, rd29n]
    clear e e2
    refine Ev.pos (by omega) (Ev.pos (by omega) (Ev.pos (by omega) (Ev.pos (by omega) (Ev.pos (by omega) (Ev.bind (meet_ev _ _ hpi hpj) ?_)))))
    have good : pairB (ps.getD i z29) (ps.getD j z29) = true → decide (∀ q, q < i → j ≤ q → pairB (ps.getD i z29) (ps.getD q z29) = true) = decide (∀ q, q < i → j + 1 ≤ q → pairB (ps.getD i z29) (ps.getD q z29) = true) := by
      intro hg
      apply decide_eq_decide.2
      exact ⟨fun h q h1 h2 => h q h1 (by omega), fun h q h1 h2 => by
        by_cases e : q = j
        · rw [e]; exact hg
        · exact h q h1 (by omega)⟩
    by_cases c : meetB (ps.getD i z29).f2 (ps.getD j z29).f2 = true
    · refine Ev.pos c (Ev.bind (specSame_ev _ _ hpi) ?_)
      by_cases c2 : sameB (ps.getD i z29) (ps.getD j z29) = true
      · refine Ev.pos c2 ?_
        rw [good (by unfold pairB; rw [c2]; simp)]
        exact hih
      · refine Ev.neg c2 (Ev.ret ?_)
        rw [decide_eq_false, Bool.false_and]
        intro h
        have := h j (by omega) (Nat.le_refl _)
        unfold pairB at this
        rw [c] at this
        exact c2 (by simpa using this)
    · refine Ev.neg c ?_
      rw [good (by unfold pairB; rw [show meetB (ps.getD i z29).f2 (ps.getD j z29).f2 = false by simpa using c]; rfl)]
      exact hih
theorem ptrs_l2 (n : Int) (hn : 3 ≤ n ∧ n ≤ 4) (ps : List S29) (hl : ps.length ≤ 1048576) (hF : ∀ p ∈ ps, p.f2.length ≤ 1048576) (d : Nat) :
    ∀ i : Nat, i + d = ps.length → Ev (fun k => spec_l2Vols.l2 k n ps (i : Int)) (decide (∀ t, t < ps.length → i ≤ t → ptrAt n ps t = true)) := by
  induction d with
  | zero =>
    intro i hi
    refine Ev.next ?_
    simp only [spec_l2Vols.l2]
    exact Ev.neg (by omega) (Ev.ret (decide_eq_true fun t h1 h2 => by omega).symm)
  | succ d ih =>
    intro i hi
    have hih := ih (i + 1) (by omega)
    have hpi := hF _ (getD_mem (z := z29) (i := i) (l := ps) (by omega))
    have h3 := pairs_l3 n ps hl hF i (by omega) hih i 0 (Nat.zero_add _)
    have hq := spec_l2Ptr_ev hn (ps.getD i z29).f0 (ps.getD i z29).f1 (ps.getD i z29).f2 (by omega)
    have ec : @decide (PtrGood n (ps.getD i z29).f0 (ps.getD i z29).f1 (ps.getD i z29).f2) (Classical.propDecidable _) = decide (PtrGood n (ps.getD i z29).f0 (ps.getD i z29).f1 (ps.getD i z29).f2) := decide_eq_decide.2 Iff.rfl
    rw [ec] at hq
    refine Ev.next ?_
    simp only [spec_l2Vols.l2, rd29n]
    refine Ev.pos (by omega) (Ev.pos (by omega) (Ev.bind hq ?_))
    by_cases c : PtrGood n (ps.getD i z29).f0 (ps.getD i z29).f1 (ps.getD i z29).f2
    · refine Ev.pos (decide_eq_true c) ?_
      have e1 : ptrC n (ps.getD i z29) = true := decide_eq_true ⟨hn, c⟩
      have : decide (∀ t, t < ps.length → i ≤ t → ptrAt n ps t = true) = (decide (∀ q, q < i → 0 ≤ q → pairB (ps.getD i z29) (ps.getD q z29) = true) && decide (∀ t, t < ps.length → i + 1 ≤ t → ptrAt n ps t = true)) := by
        rw [← decide_and']
        apply decide_eq_decide.2
        constructor
        · intro h
          have h0 := h i (by omega) (Nat.le_refl _)
          unfold ptrAt at h0
          rw [Bool.and_eq_true, decide_eq_true_iff] at h0
          exact ⟨fun q h1 _ => h0.2 q h1, fun t h1 h2 => h t h1 (by omega)⟩
        · rintro ⟨h, h'⟩ t h1 h2
          by_cases e : t = i
          · subst e
            unfold ptrAt
            rw [e1, Bool.true_and, decide_eq_true_iff]
            exact fun q h1 => h q h1 (Nat.zero_le _)
          · exact h' t h1 (by omega)
      rw [this]
      exact h3
    · refine Ev.neg (by rw [decide_eq_true_iff]; exact c) (Ev.ret ?_)
      rw [decide_eq_false]
      intro h
      have h0 := h i (by omega) (Nat.le_refl _)
      unfold ptrAt ptrC at h0
      rw [Bool.and_eq_true, decide_eq_true_iff] at h0
      exact c h0.1.2
def nameAt (vs : List S65) (i : Nat) : Bool := volB (vs.getD i z65).f0 && (decide ((vs.getD i z65).f1.length = 3) && decide (∀ q, q < i → (vs.getD q z65).f0.toList ≠ (vs.getD i z65).f0.toList))
theorem names_l1 (n tx : Int) (vs : List S65) (hl : vs.length ≤ 4) (i : Nat) (hi : i < vs.length) {r : Bool} (k : (∀ q, q < i → (vs.getD q z65).f0.toList ≠ (vs.getD i z65).f0.toList) → Ev (fun k => spec_l2Vols.l0 k n ((i + 1 : Nat) : Int) tx vs) r) (d : Nat) :
    ∀ j : Nat, j + d = i → (∀ q, q < j → (vs.getD q z65).f0.toList ≠ (vs.getD i z65).f0.toList) → Ev (fun k => spec_l2Vols.l1 k n (i : Int) (j : Int) tx vs) (decide (∀ q, q < i → (vs.getD q z65).f0.toList ≠ (vs.getD i z65).f0.toList) && r) := by
  have e : wrap64 ((i : Int) + 1) = ((i + 1 : Nat) : Int) := by rw [wrap_ok (by omega)]; omega
  induction d with
  | zero =>
    intro j hj hq
    have hji : j = i := by omega
    subst hji
    refine Ev.next ?_
    simp only [spec_l2Vols.l1, e]
    clear e
    refine Ev.neg (by omega) ?_
    rw [decide_eq_true hq, Bool.true_and]
    exact k hq
  | succ d ih =>
    intro j hj hq
    have e2 : wrap64 ((j : Int) + 1) = ((j + 1 : Nat) : Int) := by rw [wrap_ok (by omega)]; omega
    refine Ev.next ?_
    simp only [spec_l2Vols.l1, e2, rd65n]
    clear e e2
    refine Ev.pos (by omega) (Ev.pos (by omega) (Ev.pos (by omega) (Ev.pos (by omega) (Ev.pos (by omega) ?_))))
    by_cases c : (vs.getD j z65).f0.toList = (vs.getD i z65).f0.toList
    · refine Ev.pos c (Ev.ret ?_)
      rw [decide_eq_false, Bool.false_and]
      exact fun h => h j (by omega) c
    · exact Ev.neg c (ih (j + 1) (by omega) fun q h1 => by
        by_cases e : q = j
        · rw [e]; exact c
        · exact hq q (by omega))
theorem vols_l0 (n tx : Int) (hn : 3 ≤ n ∧ n ≤ 4) (vs : List S65) (hF : FitM vs) (hl : vs.length ≤ 4) (d : Nat) : ∀ i : Nat, i + d = vs.length → (∀ q, q < i → nameAt vs q = true) →
    Ev (fun k => spec_l2Vols.l0 k n (i : Int) tx vs) (decide (∀ q, q < vs.length → nameAt vs q = true) && decide (∀ t, t < (ptrs vs).length → 0 ≤ t → ptrAt n (ptrs vs) t = true)) := by
  induction d with
  | zero =>
    intro i hi hq
    have h3 : ∀ x ∈ vs, x.f1.length = 3 := fun x hx => by
      obtain ⟨q, hq2, rfl⟩ := List.getElem_of_mem hx
      have := hq q (by omega)
      unfold nameAt at this
      rw [Bool.and_eq_true, Bool.and_eq_true, decide_eq_true_iff] at this
      simpa [List.getD, hq2] using this.2.1
    refine Ev.next ?_
    simp only [spec_l2Vols.l0]
    refine Ev.neg (by omega) (Ev.bind (all_ev tx vs hl h3) ?_)
    rw [decide_eq_true (fun q h => hq q (by omega)), Bool.true_and]
    have hp := ptrs_take_len h3 vs.length (Nat.le_refl _)
    rw [List.take_length] at hp
    exact ptrs_l2 n hn (ptrs vs) (by omega) (fun p hp => by
      obtain ⟨x, hx, h⟩ := List.mem_flatMap.1 hp
      exact hF.places x hx p h) (ptrs vs).length 0 (Nat.zero_add _)
  | succ d ih =>
    intro i hi hq
    have bad : nameAt vs i = false → (decide (∀ q, q < vs.length → nameAt vs q = true) && decide (∀ t, t < (ptrs vs).length → 0 ≤ t → ptrAt n (ptrs vs) t = true)) = false := by
      intro h
      rw [decide_eq_false, Bool.false_and]
      intro h2
      rw [h2 i (by omega)] at h
      cases h
    refine Ev.next ?_
    simp only [spec_l2Vols.l0, rd65n]
    refine Ev.pos (by omega) (Ev.pos (by omega) (Ev.bind (l2Name_ev _) ?_))
    by_cases c : volB (vs.getD i z65).f0 = true
    · refine Ev.pos c (Ev.next ?_)
      simp only [spec_l2Vols.j1]
      by_cases c3 : (vs.getD i z65).f1.length = 3
      · refine Ev.neg (by rw [bne_iff_ne]; omega) ?_
        by_cases hd : ∀ q, q < i → (vs.getD q z65).f0.toList ≠ (vs.getD i z65).f0.toList
        · have hok : nameAt vs i = true := by
            unfold nameAt
            rw [c, decide_eq_true c3, decide_eq_true hd]
            rfl
          have := names_l1 n tx vs hl i (by omega) (fun _ => ih (i + 1) (by omega) fun q h1 => by
            by_cases e : q = i
            · rw [e]; exact hok
            · exact hq q (by omega)) i 0 (Nat.zero_add _) (fun q h => by omega)
          rw [decide_eq_true hd, Bool.true_and] at this
          exact this
        · have := names_l1 n tx vs hl i (by omega) (r := true) (fun h => absurd h hd) i 0 (Nat.zero_add _) (fun q h => by omega)
          rw [decide_eq_false hd, Bool.false_and] at this
          rw [bad (by unfold nameAt; rw [decide_eq_false hd]; simp)]
          exact this
      · refine Ev.pos (by rw [bne_iff_ne]; omega) (Ev.ret (bad ?_).symm)
        unfold nameAt
        rw [decide_eq_false c3]
        simp
    · refine Ev.neg c (Ev.next ?_)
      simp only [spec_l2Vols.j1]
      refine Ev.pos trivial (Ev.ret (bad ?_).symm)
      unfold nameAt
      rw [show volB (vs.getD i z65).f0 = false by simpa using c, Bool.false_and]
def specB (n tx : Int) (vs : List S65) : Bool := decide (3 ≤ n ∧ n ≤ 4) && (decide (0 ≤ tx ∧ tx ≤ 100000) && (decide (vs.length ≤ 4) && (decide (∀ q, q < vs.length → nameAt vs q = true) && decide (∀ t, t < (ptrs vs).length → 0 ≤ t → ptrAt n (ptrs vs) t = true))))
theorem specRoot_ev (n tx : Int) (vs : List S65) (hF : FitM vs) : Ev (fun k => spec_RootOk.f k n tx vs) (specB n tx vs) := by
  unfold spec_RootOk.f specB spec_l2Disks.f
  refine Ev.take (a := decide (3 ≤ n ∧ n ≤ 4)) (by rw [l6In_eq]; rfl) ?_
  by_cases hn : 3 ≤ n ∧ n ≤ 4
  · rw [decide_eq_true hn, Bool.true_and]
    refine Ev.pos rfl (Ev.take (l6In_eq _ _ _) ?_)
    by_cases ht : 0 ≤ tx ∧ tx ≤ 100000
    · rw [decide_eq_true ht, Bool.true_and]
      refine Ev.pos rfl ?_
      by_cases hl : vs.length ≤ 4
      · rw [decide_eq_true hl, Bool.true_and]
        refine Ev.pos (by omega) (Ev.bind ?_ (Ev.ret rfl))
        unfold spec_l2Vols.f
        exact vols_l0 n tx hn vs hF hl vs.length 0 (Nat.zero_add _) (fun q h => by omega)
      · exact Ev.neg (by omega) (Ev.ret (by rw [decide_eq_false hl]; rfl))
    · exact Ev.neg (by rw [decide_eq_true_iff]; exact ht) (Ev.ret (by rw [decide_eq_false ht]; rfl))
  · exact Ev.neg (by rw [decide_eq_true_iff]; exact hn) (Ev.ret (by rw [decide_eq_false hn]; rfl))
end Go.Proofs.Ytkoimmeghdbodaa.Pure
namespace Go.Proofs.Ytkoimmeghdbodaa.Pure
open Go.RowKit Go.Proofs.Ytkoimmeghdbodaa.Print Go.Proofs.YtkoimmeghdbodaaW.PrintWords Go.Proofs.YtkoimmeghdbodaaW.PrintLast
set_option linter.unusedSimpArgs false
set_option linter.unusedVariables false
theorem lastL_append (A B : List (S37 × Nat)) (x : S37) : lastL (A ++ B) x = match lastL B x with | some t => some t | none => lastL A x := by
  refine rev_ind (P := fun B => lastL (A ++ B) x = match lastL B x with | some t => some t | none => lastL A x) ?_ (fun L q ih => ?_) B
  · rw [List.append_nil]
    rfl
  · rw [← List.append_assoc, lastL_snoc, lastL_snoc]
    by_cases e : q.1 = x
    · rw [if_pos e, if_pos e]
    · rw [if_neg e, if_neg e]
      exact ih
theorem lastL_map (x : S37) (t : Nat) (l : List S37) : lastL (l.map fun y => (y, t)) x = if x ∈ l then some t else none := by
  refine rev_ind (P := fun l => lastL (l.map fun y => (y, t)) x = if x ∈ l then some t else none) (by simp [lastL]) (fun l y ih => ?_) l
  rw [List.map_append, List.map_cons, List.map_nil, lastL_snoc, ih]
  by_cases e : y = x
  · subst e
    simp
  · have : x ∈ l ++ [y] ↔ x ∈ l := by
      rw [List.mem_append, List.mem_singleton]
      exact ⟨fun h => h.elim id (fun h => absurd h.symm e), Or.inl⟩
    simp only [this, if_neg e]
theorem pre_succ (ps : List S29) (i : Nat) : preL ps (i + 1) = preL ps i ++ (ps.getD i z29).f2.map fun x => (x, i) := by
  simp only [preL, List.range_succ, List.flatMap_append, List.flatMap_cons, List.flatMap_nil, List.append_nil]
theorem pre_last (ps : List S29) (x : S37) : ∀ i : Nat, match lastL (preL ps i) x with
    | some t => t < i ∧ x ∈ (ps.getD t z29).f2 ∧ ∀ q, t < q → q < i → x ∉ (ps.getD q z29).f2
    | none => ∀ q, q < i → x ∉ (ps.getD q z29).f2 := by
  intro i
  induction i with
  | zero =>
    have : lastL (preL ps 0) x = none := rfl
    rw [this]
    intro q h
    omega
  | succ i ih =>
    rw [pre_succ, lastL_append, lastL_map]
    by_cases c : x ∈ (ps.getD i z29).f2
    · rw [if_pos c]
      exact ⟨by omega, c, fun q h1 h2 => by omega⟩
    · rw [if_neg c]
      cases hL : lastL (preL ps i) x with
      | none =>
        rw [hL] at ih
        intro q hq
        by_cases e : q = i
        · rw [e]; exact c
        · exact ih q (by omega)
      | some t =>
        rw [hL] at ih
        exact ⟨by omega, ih.2.1, fun q h1 h2 => by
          by_cases e : q = i
          · rw [e]; exact c
          · exact ih.2.2 q h1 (by omega)⟩
theorem sameB_iff (a b : S29) : sameB a b = true ↔ a.f0 = b.f0 ∧ a.f1 = b.f1 ∧ a.f2 = b.f2 := by
  unfold sameB
  simp only [Bool.and_eq_true, decide_eq_true_iff]
theorem first_at (x : S37) : ∀ l : List S37, x ∈ l → ∃ j, j < l.length ∧ l.getD j z37 = x ∧ x ∉ l.take j := by
  intro l
  induction l with
  | nil => intro h; simp at h
  | cons y ys ih =>
    intro h
    by_cases e : y = x
    · exact ⟨0, by simp, by simp [e], by simp⟩
    · obtain ⟨j, h1, h2, h3⟩ := ih ((List.mem_cons.1 h).resolve_left (fun h => e h.symm))
      refine ⟨j + 1, by simp; omega, by simpa using h2, ?_⟩
      rw [List.take_succ_cons, List.mem_cons]
      rintro (h | h)
      · exact e h.symm
      · exact h3 h
theorem pairB_iff (p q : S29) : pairB p q = true ↔ ∀ x, x ∈ p.f2 → x ∈ q.f2 → sameB p q = true := by
  unfold pairB
  rw [Bool.or_eq_true, Bool.not_eq_true']
  constructor
  · rintro (h | h) x h1 h2
    · have := (meetB_iff p.f2 q.f2).2 ⟨x, h1, h2⟩
      rw [h] at this
      cases this
    · exact h
  · intro h
    by_cases c : meetB p.f2 q.f2 = true
    · obtain ⟨x, h1, h2⟩ := (meetB_iff p.f2 q.f2).1 c
      exact Or.inr (h x h1 h2)
    · exact Or.inl (by simpa using c)
theorem own_iff (ps : List S29) : implOwn ps = true ↔ ∀ i, i < ps.length → ∀ q, q < i → pairB (ps.getD i z29) (ps.getD q z29) = true := by
  rw [implOwn_iff]
  constructor
  · intro h
    have key : ∀ n i, i < n → i < ps.length → ∀ q, q < i → ∀ x, x ∈ (ps.getD i z29).f2 → x ∈ (ps.getD q z29).f2 → sameB (ps.getD i z29) (ps.getD q z29) = true := by
      intro n
      induction n with
      | zero => intro i h; omega
      | succ n ih =>
        intro i hin hi q hq x hx hxq
        obtain ⟨j, hj, hjx, hjn⟩ := first_at x _ hx
        have hs := (rowOk_iff ps i).1 (h i hi) j hj
        unfold stepOk putL at hs
        rw [hjx, lastL_append, lastL_map, if_neg hjn] at hs
        have hp := pre_last ps x i
        cases hL : lastL (preL ps i) x with
        | none =>
          rw [hL] at hp
          exact absurd hxq (hp q hq)
        | some t =>
          rw [hL] at hp hs
          simp only at hp hs
          by_cases e : q = t
          · rw [e]; exact hs
          · have hlt : q < t := by
              apply Classical.byContradiction
              intro hc
              exact hp.2.2 q (by omega) hq hxq
            have h2 := ih t (by omega) (by omega) q hlt x hp.2.1 hxq
            have a := (sameB_iff _ _).1 hs
            have b := (sameB_iff _ _).1 h2
            exact (sameB_iff _ _).2 ⟨a.1.trans b.1, a.2.1.trans b.2.1, a.2.2.trans b.2.2⟩
    intro i hi q hq
    rw [pairB_iff]
    exact key (i + 1) i (by omega) hi q hq
  · intro h i hi
    rw [rowOk_iff]
    intro j hj
    unfold stepOk
    cases hL : lastL (putL ps i j) ((ps.getD i z29).f2.getD j z37) with
    | none => rfl
    | some t =>
      have hm := putL_mem (lastL_mem hL)
      by_cases e : t = i
      · subst e
        exact (sameB_iff _ _).2 ⟨rfl, rfl, rfl⟩
      · exact (pairB_iff _ _).1 (h i hi t (by have := hm.1; omega)) _ (getD_mem hj) hm.2
theorem take_any (vs : List S65) (i : Nat) (hi : i < vs.length) : (vs.take i).any (fun x : S65 => x.f0.toList == (vs.getD i z65).f0.toList) = false ↔ ∀ q, q < i → (vs.getD q z65).f0.toList ≠ (vs.getD i z65).f0.toList := by
  rw [List.any_eq_false]
  constructor
  · intro h q hq he
    have hm : vs.getD q z65 ∈ vs.take i := by
      rw [List.mem_take_iff_getElem]
      exact ⟨q, by omega, by simp [List.getD, show q < vs.length by omega]⟩
    exact h _ hm (by rw [he]; simp)
  · intro h x hx he
    rw [List.mem_take_iff_getElem] at hx
    obtain ⟨q, hq, rfl⟩ := hx
    have := h q (by omega)
    apply this
    simp only [List.getD, show q < vs.length by omega, getElem?_pos, Option.getD_some] at he ⊢
    exact beq_iff_eq.1 he
theorem volAt_iff (n : Int) (vs : List S65) (i : Nat) (hi : i < vs.length) : volAt n vs i = true ↔ nameAt vs i = true ∧ ∀ p ∈ (vs.getD i z65).f1, ptrC n p = true := by
  unfold volAt nameAt
  simp only [Bool.and_eq_true, decide_eq_true_iff, Bool.not_eq_true']
  rw [take_any vs i hi, List.any_eq_false]
  constructor
  · rintro ⟨⟨h1, h2⟩, h3, h4⟩
    exact ⟨⟨h1, h2, h3⟩, fun p hp => by simpa using h4 p hp⟩
  · rintro ⟨⟨h1, h2, h3⟩, h4⟩
    exact ⟨⟨h1, h2⟩, h3, fun p hp => by rw [h4 p hp]; simp⟩
theorem rootB_eq (n tx : Int) (vs : List S65) : rootB n tx vs = specB n tx vs := by
  rw [Bool.eq_iff_iff]
  unfold rootB specB
  simp only [Bool.and_eq_true, decide_eq_true_iff]
  constructor
  · rintro ⟨hn, ht0, ht1, hv, ho⟩
    have hg := vols_good hv
    have ho := (own_iff _).1 ho
    unfold volsB at hv
    rw [Bool.and_eq_true, List.all_eq_true] at hv
    refine ⟨hn, ⟨ht0, ht1⟩, hg.1, fun q hq => ((volAt_iff n vs q hq).1 (hv.1 q (List.mem_range.2 hq))).1, fun t ht _ => ?_⟩
    unfold ptrAt
    rw [hg.2.2 _ (getD_mem ht), Bool.true_and, decide_eq_true_iff]
    exact ho t ht
  · rintro ⟨hn, ⟨ht0, ht1⟩, hl, hv, hp⟩
    have hp2 : ∀ p ∈ ptrs vs, ptrC n p = true := fun p hpm => by
      obtain ⟨t, ht, rfl⟩ := List.getElem_of_mem hpm
      have := hp t ht (Nat.zero_le _)
      unfold ptrAt at this
      rw [Bool.and_eq_true] at this
      simpa [List.getD, ht] using this.1
    refine ⟨hn, ht0, ht1, ?_, (own_iff _).2 fun t ht => ?_⟩
    · unfold volsB
      rw [Bool.and_eq_true, List.all_eq_true, decide_eq_true_iff]
      refine ⟨fun q hq => ?_, hl⟩
      have hq := List.mem_range.1 hq
      exact (volAt_iff n vs q hq).2 ⟨hv q hq, fun p hpm => hp2 p (List.mem_flatMap.2 ⟨_, getD_mem hq, hpm⟩)⟩
    · have := hp t ht (Nat.zero_le _)
      unfold ptrAt at this
      rw [Bool.and_eq_true, decide_eq_true_iff] at this
      exact this.2
end Go.Proofs.Ytkoimmeghdbodaa.Pure
namespace Go.Proofs.Ytkoimmeghdbodaa.Print
open Go.RowKit Go.Proofs.YtkoimmeghdbodaaW.PrintWords Go.Proofs.YtkoimmeghdbodaaW.PrintLast Go.Proofs.YtkoimmeghdbodaaW.PrintMore
attribute [local go_sem] max2_int min2_int max_two min_two max_three min_three max_four min_four   -- for this text's walks alone
set_option linter.unusedVariables false
set_option linter.unusedSimpArgs false
mutual
def spec_RootPlaces.l0 : Nat → Int → List (S37) → List (S29) → Int → Option ((List (S37)))
 | 0, _, _, _, _ => none
 | k + 1, x0, x5, x6, x7 => if x7 < x0 then (spec_RootPlaces.l1 k x0 x5 x6 x7 0) else (some x5)
def spec_RootPlaces.l1 : Nat → Int → List (S37) → List (S29) → Int → Int → Option ((List (S37)))
 | 0, _, _, _, _, _ => none
 | k + 1, x0, x5, x6, x7, x8 => if x8 < 12 then (spec_RootPlaces.l2 k x0 x5 x6 x7 x8 false 0 0 0 (([(⟨x7, x8⟩ : S37)] : List (S37)))) else (spec_RootPlaces.l0 k x0 x5 x6 (wrap64 (x7 + 1)))
def spec_RootPlaces.l2 : Nat → Int → List (S37) → List (S29) → Int → Int → Bool → Int → Int → Int → List (S37) → Option ((List (S37)))
 | 0, _, _, _, _, _, _, _, _, _, _ => none
 | k + 1, x0, x5, x6, x7, x8, x10, x11, x606000, x606001, x606002 => if x11 < (x6.length : Int) then (if x10 = true then (spec_RootPlaces.l2 k x0 x5 x6 x7 x8 true (wrap64 (x11 + 1)) x606000 x606001 x606002) else (if 0 ≤ x11 then ((spec_l2Meet.f k x606000 x606001 x606002 ((rd_T29 x6 x11).f0) ((rd_T29 x6 x11).f1) ((rd_T29 x6 x11).f2)).bind fun t607 => (spec_RootPlaces.l2 k x0 x5 x6 x7 x8 t607 (wrap64 (x11 + 1)) x606000 x606001 x606002)) else (none))) else (if x10 = true then (if x5.length < 8796093022208 then (spec_RootPlaces.l1 k x0 (x5 ++ [(⟨x7, x8⟩ : S37)]) x6 x7 (wrap64 (x8 + 1))) else (none)) else (spec_RootPlaces.l1 k x0 x5 x6 x7 (wrap64 (x8 + 1))))
end
def spec_RootPlaces.f (k : Nat) (a0 : Int) (a1_0 : Int) (l1_1 : List (S65)) : Option ((List (S37))) := (some (([] : List (S37)) : List (S37))).bind fun y595 => ((spec_RootOk.f k a0 a1_0 l1_1).bind fun t598 => (if t598 = true then ((spec_l2All.f k a1_0 l1_1).bind fun t599 => (spec_RootPlaces.l0 k a0 y595 t599 0)) else (some y595)))
def spec_RootPlaces.T16 : Bool × List (List Nat × List Nat) := (true, [([], []), ([0], [0]), ([1], [1]), ([1], [1]), ([1], [1]), ([3, 4, 1], [1, 3, 4]), ([5, 1], [1, 5]), ([2, 6, 1, 1], [1, 2, 6]), ([1, 7], [1, 7]), ([8, 7, 0, 1, 2, 3, 4, 5, 6, 7, 8], [0, 8])])
def spec_RootPlaces.B16 : List Nat := [0, 1, 3, 3, 3, 27, 59, 127, 255, 511]
theorem spec_RootPlaces.tab16 : rtab .any (opsOf Try.f44 16) = spec_RootPlaces.T16 := by kernel_rfl
theorem spec_RootPlaces.bits16 : waitsOk spec_RootPlaces.T16.2 spec_RootPlaces.B16 = true := by kernel_rfl
set_option maxHeartbeats 8000000 in
set_option maxRecDepth 100000 in
theorem spec_RootPlaces.calls (k : Nat) (a0 : Int) (a1_0 : Int) (A1_1 : Option Addr) (c1_1 : Nat) (l1_1 : List (S65)) (r : List (S37)) (w : World) (hr1_1 : Kd.C k65 w A1_1 l1_1.length l1_1) (hc1_1 : l1_1.length ≤ c1_1) (h : spec_RootPlaces.f k a0 a1_0 l1_1 = some r) :
  Calls Try.prog 44 #[.int .i64 a0, .agg #[.int .i64 a1_0, .slice A1_1 l1_1.length c1_1]] w fun e w' => ∃ v0_ : Value, e = .returned (v0_) ∧ Kd.R k37 37 w' w.heap.size (fun _ => True) v0_ r ∧ Below w.heap.size w w' := by
 have hu57 := Try.underlying57
 have hu37 := Try.underlying37
 have hu29 := Try.underlying29
 have HR1_1 := Az.mk hr1_1
 have HC1_1 := Az.mk hc1_1
 clear hr1_1 hc1_1
 have HB := Az.mk (Below.refl w.heap.size w)
 have H : ((some (([] : List (S37)) : List (S37))).bind fun y595 => ((spec_RootOk.f k a0 a1_0 l1_1).bind fun t598 => (if t598 = true then ((spec_l2All.f k a1_0 l1_1).bind fun t599 => (spec_RootPlaces.l0 k a0 y595 t599 0)) else (some y595)))) = some r := h
 clear h
 obtain ⟨y595, hy595⟩ : ∃ y_ : List (S37), y_ = (([] : List (S37))) := ⟨_, rfl⟩
 replace H : ((spec_RootOk.f k a0 a1_0 l1_1).bind fun t598 => (if t598 = true then ((spec_l2All.f k a1_0 l1_1).bind fun t599 => (spec_RootPlaces.l0 k a0 y595 t599 0)) else (some y595))) = some r := by first | (rw [hy595]; with_reducible exact H) | (have H2_ := (Option.bind_some _ _).symm.trans H; rw [hy595]; with_reducible exact H2_) | (have H2_ := (Option.bind_some _ _).symm.trans H; with_reducible exact H2_) | with_reducible exact H | (rw [hy595]; exact H) | exact H
 have Ny595 := Az.mk hy595
 clear hy595
 replace H := Option.bind_eq_some_iff.mp H
 obtain ⟨t598, A30, H⟩ := H
 replace H : (if t598 = true then ((spec_l2All.f k a1_0 l1_1).bind fun t599 => (spec_RootPlaces.l0 k a0 y595 t599 0)) else (some y595)) = some r := H
 have A3 := Az.mk A30
 clear A30
 by_cases c4 : t598 = true
 ·subst c4
  have H1 : ((spec_l2All.f k a1_0 l1_1).bind fun t599 => (spec_RootPlaces.l0 k a0 y595 t599 0)) = some r := by rw [if_pos rfl] at H; exact H
  clear H
  have H := H1
  clear H1
  replace H := Option.bind_eq_some_iff.mp H
  obtain ⟨t599, A50, H⟩ := H
  replace H : (spec_RootPlaces.l0 k a0 y595 t599 0) = some r := H
  have A5 := Az.mk A50
  clear A50
  have H' := Az.mk H
  clear H
  go_enter Try.func44, Try.ntmps44
  go_wp2_with (first | ((with_reducible refine zqg (N := 3) rfl ?_); refine zqb ?hg (N := 3) ?hd (cs := #[.int .i64 a1_0, .slice A1_1 l1_1.length c1_1]) (t := 57) ?hr ?_; (case hd => rfl); (case hg => rfl); (case hr => first | (go_simp; done) | (go_simp; rfl)); intro gb594 hg w6 hbox hb; have n0_ := Az.mk (below_step (by repeat (first | (with_reducible first | exact HB.out | apply zq2 | apply zq1 | apply zqd) | exact HB.out)) hb); have n1_ := Az.mk (hbox); have n2_ := Az.mk ((by rw [hg]; exact (below_size (by repeat (first | (with_reducible first | exact HB.out | apply zq2 | apply zq1 | apply zqd) | exact HB.out))) : w.heap.size ≤ gb594)); have n3_ := Az.mk ((by rw [hg]; exact (below_size (by repeat (first | (with_reducible first | exact HB.out | apply zq2 | apply zq1 | apply zqd) | exact HB.out))) : w.heap.size ≤ gb594)); clear HB; have HB := n0_; have BK594 := n1_; have GW594 := n2_; have GE594 := n3_; clear n0_ n1_ n2_ n3_; clear hb hbox hg) | ((with_reducible refine zqg (N := 12) rfl ?_); refine Kd.R_lit k37 _ 37 ?hg (N := 12) ?hd (xs := ([] : List (S37))) (inner := []) (ok := fun _ => True) (okp := fun _ => True) ?hr ?hp (fun _ hk => hk) trivial (Below.refl _ _) (Nat.le_refl _) (by simp) ?_; (case hd => rfl); (case hg => rfl); (case hr => first | (go_simp; done) | (go_simp; rfl)); (case hp => exact (Reps.none _ _)); intro v596 w7 ho8 hb hg_ hnew_; clear hg_ hnew_; (first | rw [← Ny595.out] at ho8 | (simp only [Int.reduceToNat] at ho8; rw [← Ny595.out] at ho8)); have n0_ := Az.mk (Kd.R_lower ho8 (below_size (by repeat (first | (with_reducible first | exact HB.out | apply zq2 | apply zq1 | apply zqd | refine zq3 ?_ GE594.out) | exact HB.out)))); have n1_ := Az.mk (blk_below (g := gb594) (o := .cells #[.int .i64 a1_0, .slice A1_1 l1_1.length c1_1] 57 (0, 0)) (by (with_reducible repeat (first | refine zq6 ?_ _ | refine zq8 ?_ | refine zq7 ?_ _)); exact BK594.out) hb); have n2_ := Az.mk (below_step (by repeat (first | (with_reducible first | exact HB.out | apply zq2 | apply zq1 | apply zqd | refine zq3 ?_ GE594.out) | exact HB.out)) hb); clear BK594; clear HB; have HO597 := n0_; have BK594 := n1_; have HB := n2_; clear n0_ n1_ n2_; clear hb ho8; have hcz9_0 : w7.cell? ⟨gb594, 0, none⟩ = some (.int .i64 a1_0) := (zq4 BK594.out 0).trans rfl; have hcz9_1 : w7.cell? ⟨gb594, 1, none⟩ = some (.slice A1_1 l1_1.length c1_1) := (zq4 BK594.out 1).trans rfl; have hfz9_0 := zq5 BK594.out 0; have hfz9_1 := zq5 BK594.out 1) | ((with_reducible refine gate_callee (f := 36) rfl ?_); refine zq9 (some 15) rfl rfl Try.func36 (by kernel_rfl) rfl #[.int .i64 a0, .agg #[.int .i64 a1_0, .slice A1_1 l1_1.length c1_1]] rfl (by (try simp only [List.map_toArray, List.map_cons, List.map_nil]); first | done | rfl | (simp only [List.length_drop, List.length_take]; rfl)) ?_; (with_reducible refine (spec_RootOk.calls k a0 a1_0 _ _ l1_1 true _ ?side1 ?side2 A3.out).mono ?_); (case side1 => repeat (first | exact (Kd.C_below HR1_1.out HB.out) | (with_reducible refine Kd.C_alloc ?_ _) | (with_reducible refine Kd.C_drewN ?_ _) | (with_reducible refine Kd.C_drew ?_))); (case side2 => exact HC1_1.out); rintro e w10 ⟨rfl, hb⟩; refine ⟨_, rfl, ?_⟩; have n0_ := Az.mk (Kd.R_below (by (with_reducible repeat (first | apply Kd.R_alloc | apply Kd.R_drewN | apply Kd.R_drew)); exact HO597.out) hb); have n1_ := Az.mk (blk_below (g := gb594) (o := .cells #[.int .i64 a1_0, .slice A1_1 l1_1.length c1_1] 57 (0, 0)) (by (with_reducible repeat (first | refine zq6 ?_ _ | refine zq8 ?_ | refine zq7 ?_ _)); exact BK594.out) hb); have n2_ := Az.mk (below_step (by repeat (first | (with_reducible first | exact HB.out | apply zq2 | apply zq1 | apply zqd | refine zq3 ?_ GE594.out) | exact HB.out)) hb); clear HO597; clear BK594; clear HB; have HO597 := n0_; have BK594 := n1_; have HB := n2_; clear n0_ n1_ n2_; (try clear hb); (try clear hb2); (try clear hk); (try clear hi); have hcz11_0 : w10.cell? ⟨gb594, 0, none⟩ = some (.int .i64 a1_0) := (zq4 BK594.out 0).trans rfl; have hcz11_1 : w10.cell? ⟨gb594, 1, none⟩ = some (.slice A1_1 l1_1.length c1_1) := (zq4 BK594.out 1).trans rfl; have hfz11_0 := zq5 BK594.out 0; have hfz11_1 := zq5 BK594.out 1) | ((with_reducible refine gate_callee (f := 86) rfl ?_); refine zq9 (some 19) rfl rfl Try.func86 (by kernel_rfl) rfl #[.agg #[.int .i64 a1_0, .slice A1_1 l1_1.length c1_1]] rfl (by (try simp only [List.map_toArray, List.map_cons, List.map_nil]); first | done | rfl | (simp only [List.length_drop, List.length_take]; rfl)) ?_; (with_reducible refine (spec_l2All.calls k a1_0 (fun k_ => k_ < w.heap.size) _ _ l1_1 t599 _ ?side1 A5.out).mono ?_); (case side1 => exact Kd.V_mk HC1_1.out (Kd.F_below (Kd.C_F k65_heap HR1_1.out) (by repeat (first | (with_reducible first | exact HB.out | apply zq2 | apply zq1 | apply zqd | refine zq3 ?_ GE594.out) | exact HB.out)))); rintro e w12 ⟨v600, rfl, ho0, hb⟩; refine ⟨_, rfl, ?_⟩; have n0_ := Az.mk (Kd.R_below (by (with_reducible repeat (first | apply Kd.R_alloc | apply Kd.R_drewN | apply Kd.R_drew)); exact HO597.out) hb); have n1_ := Az.mk (Kd.N_lower (Kd.N_mono (ok' := fun k_ => some k_ ≠ (v596 : Value).ownBlock ∧ k_ ≠ gb594) ho0 (fun k_ hk_ => ⟨Or.elim hk_ (fun hs_ => fun e_ => Nat.not_le.2 hs_ (Kd.R_base HO597.out k_ e_.symm)) (fun hn_ => (Kd.fresh' (Kd.R_lt (by (with_reducible repeat (first | apply Kd.R_alloc | apply Kd.R_drewN | apply Kd.R_drew)); exact HO597.out)) k_ hn_)), Or.elim hk_ (fun hs_ => fun e_ => Nat.not_le.2 hs_ (by rw [e_]; exact GW594.out)) (fun hn_ => (Kd.freshB (g := gb594) (o := .cells #[.int .i64 a1_0, .slice A1_1 l1_1.length c1_1] 57 (0, 0)) (by (with_reducible repeat (first | refine zq6 ?_ _ | refine zq8 ?_ | refine zq7 ?_ _)); exact BK594.out) k_ hn_))⟩)) (below_size (by repeat (first | (with_reducible first | exact HB.out | apply zq2 | apply zq1 | apply zqd | refine zq3 ?_ GE594.out) | exact HB.out)))); have n2_ := Az.mk (blk_below (g := gb594) (o := .cells #[.int .i64 a1_0, .slice A1_1 l1_1.length c1_1] 57 (0, 0)) (by (with_reducible repeat (first | refine zq6 ?_ _ | refine zq8 ?_ | refine zq7 ?_ _)); exact BK594.out) hb); have n3_ := Az.mk (below_step (by repeat (first | (with_reducible first | exact HB.out | apply zq2 | apply zq1 | apply zqd | refine zq3 ?_ GE594.out) | exact HB.out)) hb); clear HO597; clear BK594; clear HB; have HO597 := n0_; have HO601 := n1_; have BK594 := n2_; have HB := n3_; clear n0_ n1_ n2_ n3_; (try clear hb); (try clear hb2); (try clear hk); (try clear hi); (try clear ho0)))
  go_loopg [5, 7] k (fun kq v5 v7 w' => ∃ (x5_1 : List (S37)) (x7_1 : Int), v7 = .int .i64 x7_1 ∧ Az (spec_RootPlaces.l0 kq a0 x5_1 t599 x7_1 = some r) ∧ Az (kq ≤ k) ∧ Az (Kd.R k37 37 w' w.heap.size (fun _ => True) v5 x5_1) ∧ Az (Kd.N k29 29 w' w.heap.size (fun k_ => some k_ ≠ (v5 : Value).ownBlock ∧ k_ ≠ gb594) v600 t599) ∧ Az (w'.heap[gb594]? = some (.cells #[.int .i64 a1_0, (.slice A1_1 l1_1.length c1_1)] 57 (0, 0))) ∧ Az (Below w.heap.size w w'))
  case atStart => exact ⟨(y595), (0), (by first | rfl | (simp; done) | (simp [*]; done)), H', ⟨Nat.le_refl _⟩, ⟨by (with_reducible repeat (first | apply Kd.R_alloc | apply Kd.R_drewN | apply Kd.R_drew)); exact HO597.out⟩, ⟨by (with_reducible repeat (first | apply Kd.N_alloc | apply Kd.N_drewN | apply Kd.N_drew)); exact HO601.out⟩, ⟨by (with_reducible repeat (first | refine zq6 ?_ _ | refine zq8 ?_ | refine zq7 ?_ _)); exact BK594.out⟩, ⟨by repeat (first | (with_reducible first | exact HB.out | apply zq2 | apply zq1 | apply zqd | refine zq3 ?_ GE594.out) | exact HB.out)⟩⟩
  case round =>
   clear H'
   try clear c1
   try clear p2
   try clear c3
   try clear c4
   try clear c8
   try clear hcz11_0
   try clear hcz11_1
   try clear hcz9_0
   try clear hcz9_1
   try clear hfz11_0
   try clear hfz11_1
   try clear hfz9_0
   try clear hfz9_1
   obtain ⟨x5_1, x7_1, rfl, HA, HK1, HO_5, HO_6, BK594, HB⟩ := hrel
   cases gk with
   | zero => exact absurd HA.out (by simp [spec_RootPlaces.l0])
   | succ k1 =>
    have H := HA.out
    clear HA
    simp only [spec_RootPlaces.l0] at H
    by_cases c13 : x7_1 < a0
    ·rw [if_pos c13] at H
     have c13b0 : decide (x7_1 < a0) = true := decide_eq_true c13
     clear c13
     have H' := Az.mk H
     clear H
     go_wp2
     go_loopg [5, 8] k1 (fun kq v5 v8 w' => ∃ (x5_2 : List (S37)) (x8_2 : Int), v8 = .int .i64 x8_2 ∧ Az (spec_RootPlaces.l1 kq a0 x5_2 t599 x7_1 x8_2 = some r) ∧ Az (kq ≤ k1) ∧ Az (Kd.R k37 37 w' w.heap.size (fun _ => True) v5 x5_2) ∧ Az (Kd.N k29 29 w' w.heap.size (fun k_ => some k_ ≠ (v5 : Value).ownBlock ∧ k_ ≠ gb594) v600 t599) ∧ Az (w'.heap[gb594]? = some (.cells #[.int .i64 a1_0, (.slice A1_1 l1_1.length c1_1)] 57 (0, 0))) ∧ Az (Below w.heap.size w w'))
     case atStart => exact ⟨(x5_1), (0), (by first | rfl | (simp; done) | (simp [*]; done)), H', ⟨Nat.le_refl _⟩, ⟨by (with_reducible repeat (first | apply Kd.R_alloc | apply Kd.R_drewN | apply Kd.R_drew)); exact HO_5.out⟩, ⟨by (with_reducible repeat (first | apply Kd.N_alloc | apply Kd.N_drewN | apply Kd.N_drew)); exact HO_6.out⟩, ⟨by (with_reducible repeat (first | refine zq6 ?_ _ | refine zq8 ?_ | refine zq7 ?_ _)); exact BK594.out⟩, ⟨by repeat (first | (with_reducible first | exact HB.out | apply zq2 | apply zq1 | apply zqd | refine zq3 ?_ GE594.out) | exact HB.out)⟩⟩
     case round =>
      clear H'
      try clear c1
      try clear p2
      try clear c3
      try clear c4
      try clear c8
      try clear c13
      try clear c13b0
      try clear hcz11_0
      try clear hcz11_1
      try clear hcz9_0
      try clear hcz9_1
      try clear hfz11_0
      try clear hfz11_1
      try clear hfz9_0
      try clear hfz9_1
      try clear p2
      obtain ⟨x5_2, x8_2, rfl, HA, HK2, HO_5, HO_6, BK594, HB⟩ := hrel
      cases gk with
      | zero => exact absurd HA.out (by simp [spec_RootPlaces.l1])
      | succ k2 =>
       have H := HA.out
       clear HA
       simp only [spec_RootPlaces.l1] at H
       by_cases c14 : x8_2 < 12
       ·rw [if_pos c14] at H
        have c14b0 : decide (x8_2 < 12) = true := decide_eq_true c14
        clear c14
        obtain ⟨y602, hy602⟩ : ∃ y_ : List (S37), y_ = (([(⟨x7_1, x8_2⟩ : S37)] : List (S37))) := ⟨_, rfl⟩
        replace H : (spec_RootPlaces.l2 k2 a0 x5_2 t599 x7_1 x8_2 false 0 0 0 y602) = some r := by first | (rw [hy602]; with_reducible exact H) | (have H2_ := (Option.bind_some _ _).symm.trans H; rw [hy602]; with_reducible exact H2_) | (have H2_ := (Option.bind_some _ _).symm.trans H; with_reducible exact H2_) | with_reducible exact H | (rw [hy602]; exact H) | exact H
        have Ny602 := Az.mk hy602
        clear hy602
        have H' := Az.mk H
        clear H
        go_wp2_with (first | ((with_reducible refine zqg (N := 32) rfl ?_); refine Kd.R_lit k37 _ 37 ?hg (N := 32) ?hd (xs := ([(⟨x7_1, x8_2⟩ : S37)] : List (S37))) (inner := [.int .i64 x7_1, .int .i64 x8_2]) (ok := fun _ => True) (okp := fun _ => True) ?hr ?hp (fun _ hk => hk) trivial (Below.refl _ _) (Nat.le_refl _) (by simp) ?_; (case hd => rfl); (case hg => rfl); (case hr => first | (go_simp; done) | (go_simp; rfl)); (case hp => exact (Reps.c2 (show Kd.M k37 _ _ _ (⟨x7_1, x8_2⟩ : S37) [.int .i64 x7_1, .int .i64 x8_2] from (k37_mkM _ _ _ (⟨x7_1, x8_2⟩ : S37) )) (Reps.none _ _))); intro v603 w15 ho16 hb hg_ hnew_; clear hg_ hnew_; (first | rw [← Ny602.out] at ho16 | (simp only [Int.reduceToNat] at ho16; rw [← Ny602.out] at ho16)); have n0_ := Az.mk (Kd.R_elder' (by (with_reducible repeat (first | apply Kd.R_alloc | apply Kd.R_drewN | apply Kd.R_drew)); exact HO_5.out) (Kd.R_base ho16) hb); have n1_ := Az.mk (Kd.N_elder' (by (with_reducible repeat (first | apply Kd.N_alloc | apply Kd.N_drewN | apply Kd.N_drew)); exact HO_6.out) (Kd.R_base ho16) hb); have n2_ := Az.mk (Kd.R_lower (Kd.R_new' ho16 (Kd.R_lt (by (with_reducible repeat (first | apply Kd.R_alloc | apply Kd.R_drewN | apply Kd.R_drew)); exact HO_5.out))) (below_size (by repeat (first | (with_reducible first | exact HB.out | apply zq2 | apply zq1 | apply zqd | refine zq3 ?_ GE594.out) | exact HB.out)))); have n3_ := Az.mk (blk_below (g := gb594) (o := .cells #[.int .i64 a1_0, .slice A1_1 l1_1.length c1_1] 57 (0, 0)) (by (with_reducible repeat (first | refine zq6 ?_ _ | refine zq8 ?_ | refine zq7 ?_ _)); exact BK594.out) hb); have n4_ := Az.mk (below_step (by repeat (first | (with_reducible first | exact HB.out | apply zq2 | apply zq1 | apply zqd | refine zq3 ?_ GE594.out) | exact HB.out)) hb); clear HO_5; clear HO_6; clear BK594; clear HB; have HO_5 := n0_; have HO_6 := n1_; have HO604 := n2_; have BK594 := n3_; have HB := n4_; clear n0_ n1_ n2_ n3_ n4_; clear hb ho16; obtain ⟨Ao17, co17, eo17⟩ := Kd.R_slice HO604.out; subst eo17) | ((with_reducible refine zqg (N := 9) rfl ?_); refine zqb ?hg (N := 9) ?hd (cs := #[.int .i64 0, .int .i64 0, .slice none 0 0]) (t := 29) ?hr ?_; (case hd => rfl); (case hg => rfl); (case hr => first | (go_simp; done) | (go_simp; rfl)); intro gb605 hg w18 hbox hb; have n0_ := Az.mk (Kd.R_below (by (with_reducible repeat (first | apply Kd.R_alloc | apply Kd.R_drewN | apply Kd.R_drew)); exact HO_5.out) hb); have n1_ := Az.mk (Kd.N_below (Kd.N_elderB (by (with_reducible repeat (first | apply Kd.N_alloc | apply Kd.N_drewN | apply Kd.N_drew)); exact HO_6.out) gb605 (Nat.le_of_eq hg.symm)) hb); have n2_ := Az.mk (Kd.R_below (by (with_reducible repeat (first | apply Kd.R_alloc | apply Kd.R_drewN | apply Kd.R_drew)); exact HO604.out) hb); have n3_ := Az.mk (blk_below (g := gb594) (o := .cells #[.int .i64 a1_0, .slice A1_1 l1_1.length c1_1] 57 (0, 0)) (by (with_reducible repeat (first | refine zq6 ?_ _ | refine zq8 ?_ | refine zq7 ?_ _)); exact BK594.out) hb); have n4_ := Az.mk (below_step (by repeat (first | (with_reducible first | exact HB.out | apply zq2 | apply zq1 | apply zqd | refine zq3 ?_ GE594.out) | exact HB.out)) hb); have n5_ := Az.mk (hbox); have n6_ := Az.mk ((by rw [hg]; exact (below_size (by repeat (first | (with_reducible first | exact HB.out | apply zq2 | apply zq1 | apply zqd | refine zq3 ?_ GE594.out) | exact HB.out))) : w.heap.size ≤ gb605)); have n7_ := Az.mk ((by rw [hg]; exact (below_size (by repeat (first | (with_reducible first | exact HB.out | apply zq2 | apply zq1 | apply zqd | refine zq3 ?_ GE594.out) | exact HB.out))) : w.heap.size ≤ gb605)); have n8_ := Az.mk ((by rw [hg]; exact Nat.ne_of_lt (blk_lt (g := gb594) (o := .cells #[.int .i64 a1_0, .slice A1_1 l1_1.length c1_1] 57 (0, 0)) (by (with_reducible repeat (first | refine zq6 ?_ _ | refine zq8 ?_ | refine zq7 ?_ _)); exact BK594.out)) : gb594 ≠ gb605)); have n9_ := Az.mk ((by rw [hg]; exact Nat.ne_of_gt (blk_lt (g := gb594) (o := .cells #[.int .i64 a1_0, .slice A1_1 l1_1.length c1_1] 57 (0, 0)) (by (with_reducible repeat (first | refine zq6 ?_ _ | refine zq8 ?_ | refine zq7 ?_ _)); exact BK594.out)) : gb605 ≠ gb594)); clear HO_5; clear HO_6; clear HO604; clear BK594; clear HB; have HO_5 := n0_; have HO_6 := n1_; have HO604 := n2_; have BK594 := n3_; have HB := n4_; have BK605 := n5_; have GW605 := n6_; have GE605 := n7_; have NB594_605 := n8_; have NB605_594 := n9_; clear n0_ n1_ n2_ n3_ n4_ n5_ n6_ n7_ n8_ n9_; clear hb hbox hg; have hnb19 := NB605_594.out; have hnc19 := NB594_605.out; have hcz20_0 : w18.cell? ⟨gb605, 0, none⟩ = some (.int .i64 0) := (zq4 BK605.out 0).trans rfl; have hcz20_1 : w18.cell? ⟨gb605, 1, none⟩ = some (.int .i64 0) := (zq4 BK605.out 1).trans rfl; have hcz20_2 : w18.cell? ⟨gb605, 2, none⟩ = some (.slice none 0 0) := (zq4 BK605.out 2).trans rfl; have hfz20_0 := zq5 BK605.out 0; have hfz20_1 := zq5 BK605.out 1; have hfz20_2 := zq5 BK605.out 2))
        go_loopg [10, 11] k2 (fun kq v10 v11 w' => ∃ (x10_3 : Bool) (x11_3 : Int), v10 = .bool x10_3 ∧ v11 = .int .i64 x11_3 ∧ Az (spec_RootPlaces.l2 kq a0 x5_2 t599 x7_1 x8_2 x10_3 x11_3 0 0 y602 = some r) ∧ Az (kq ≤ k2) ∧ Az (Kd.R k37 37 w' w.heap.size (fun k_ => some k_ ≠ ((.slice Ao17 y602.length co17) : Value).ownBlock) u5 x5_2) ∧ Az (Kd.N k29 29 w' w.heap.size (fun k_ => some k_ ≠ (u5 : Value).ownBlock ∧ some k_ ≠ ((.slice Ao17 y602.length co17) : Value).ownBlock ∧ k_ ≠ gb594 ∧ k_ ≠ gb605) v600 t599) ∧ Az (Kd.R k37 37 w' w.heap.size (fun k_ => some k_ ≠ (u5 : Value).ownBlock) (.slice Ao17 y602.length co17) y602) ∧ Az (w'.heap[gb594]? = some (.cells #[.int .i64 a1_0, (.slice A1_1 l1_1.length c1_1)] 57 (0, 0))) ∧ Az (w'.heap[gb605]? = some (.cells #[.int .i64 0, .int .i64 0, (.slice Ao17 y602.length co17)] 29 (0, 0))) ∧ Az (Below w.heap.size w w'))
        case atStart => exact ⟨(false), (0), (by first | rfl | (simp; done) | (simp [*]; done)), (by first | rfl | (simp; done) | (simp [*]; done)), H', ⟨Nat.le_refl _⟩, ⟨by (with_reducible repeat (first | apply Kd.R_alloc | apply Kd.R_drewN | apply Kd.R_drew)); exact Kd.R_mono (Kd.R_far (p := ⟨gb605, 2, none⟩) (Kd.R_far (p := ⟨gb605, 1, none⟩) (Kd.R_far (p := ⟨gb605, 0, none⟩) (Kd.R_types HO_5.out BK605.out (by decide)) (fun _ hk => hk.2) (.int .i64 0)) (fun _ hk => hk.2) (.int .i64 0)) (fun _ hk => hk.2) (.slice Ao17 y602.length co17)) (fun _ hk => hk.1.2)⟩, ⟨by (with_reducible repeat (first | apply Kd.N_alloc | apply Kd.N_drewN | apply Kd.N_drew)); exact Kd.N_mono (Kd.N_far (p := ⟨gb605, 2, none⟩) (Kd.N_far (p := ⟨gb605, 1, none⟩) (Kd.N_far (p := ⟨gb605, 0, none⟩) (Kd.N_mono HO_6.out (fun k_ hk => (⟨hk, hk.2⟩ : _ ∧ k_ ≠ gb605))) (fun _ hk => hk.2) (.int .i64 0)) (fun _ hk => hk.2) (.int .i64 0)) (fun _ hk => hk.2) (.slice Ao17 y602.length co17)) (fun _ hk => ⟨hk.1.1.1.1, ⟨hk.1.1.2, ⟨hk.1.1.1.2, hk.1.2⟩⟩⟩)⟩, ⟨by (with_reducible repeat (first | apply Kd.R_alloc | apply Kd.R_drewN | apply Kd.R_drew)); exact Kd.R_mono (Kd.R_far (p := ⟨gb605, 2, none⟩) (Kd.R_far (p := ⟨gb605, 1, none⟩) (Kd.R_far (p := ⟨gb605, 0, none⟩) (Kd.R_types HO604.out BK605.out (by decide)) (fun _ hk => hk.2) (.int .i64 0)) (fun _ hk => hk.2) (.int .i64 0)) (fun _ hk => hk.2) (.slice Ao17 y602.length co17)) (fun _ hk => hk.1.2)⟩, ⟨by (with_reducible repeat (first | refine zq6 ?_ _ | refine zq8 ?_ | refine zq7 ?_ _)); refine blk_far ?_ NB594_605.out _; (with_reducible repeat (first | refine zq6 ?_ _ | refine zq8 ?_ | refine zq7 ?_ _)); refine blk_far ?_ NB594_605.out _; (with_reducible repeat (first | refine zq6 ?_ _ | refine zq8 ?_ | refine zq7 ?_ _)); refine blk_far ?_ NB594_605.out _; (with_reducible repeat (first | refine zq6 ?_ _ | refine zq8 ?_ | refine zq7 ?_ _)); exact BK594.out⟩, ⟨by (with_reducible repeat (first | refine zq6 ?_ _ | refine zq8 ?_ | refine zq7 ?_ _)); refine blk_put (cs := #[.int .i64 0, .int .i64 0, .slice none 0 0]) ?_ 2 _ rfl; (with_reducible repeat (first | refine zq6 ?_ _ | refine zq8 ?_ | refine zq7 ?_ _)); refine blk_put (cs := #[.int .i64 0, .int .i64 0, .slice none 0 0]) ?_ 1 _ rfl; (with_reducible repeat (first | refine zq6 ?_ _ | refine zq8 ?_ | refine zq7 ?_ _)); refine blk_put (cs := #[.int .i64 0, .int .i64 0, .slice none 0 0]) ?_ 0 _ rfl; (with_reducible repeat (first | refine zq6 ?_ _ | refine zq8 ?_ | refine zq7 ?_ _)); exact BK605.out⟩, ⟨by repeat (first | (with_reducible first | exact HB.out | apply zq2 | apply zq1 | apply zqd | refine zq3 ?_ GE594.out | refine zq3 ?_ GE605.out) | exact HB.out)⟩⟩
        case round =>
         clear H'
         try clear c1
         try clear c2
         try clear p2
         try clear c3
         try clear c4
         try clear c8
         try clear c13
         try clear c13b0
         try clear c14
         try clear c14b0
         try clear c19
         try clear hcz11_0
         try clear hcz11_1
         try clear hcz20_0
         try clear hcz20_1
         try clear hcz20_2
         try clear hcz9_0
         try clear hcz9_1
         try clear hfz11_0
         try clear hfz11_1
         try clear hfz20_0
         try clear hfz20_1
         try clear hfz20_2
         try clear hfz9_0
         try clear hfz9_1
         try clear p2
         obtain ⟨x10_3, x11_3, rfl, rfl, HA, HK3, HO_5, HO_6, HO_606002, BK594, BK605, HB⟩ := hrel
         cases gk with
         | zero => exact absurd HA.out (by simp [spec_RootPlaces.l2])
         | succ k3 =>
          have H := HA.out
          clear HA
          simp only [spec_RootPlaces.l2] at H
          by_cases c21 : x11_3 < (t599.length : Int)
          ·rw [if_pos c21] at H
           have c21b0 : decide (x11_3 < (t599.length : Int)) = true := decide_eq_true c21
           clear c21
           by_cases c22 : x10_3 = true
           ·subst c22
            have H1 : (spec_RootPlaces.l2 k3 a0 x5_2 t599 x7_1 x8_2 true (wrap64 (x11_3 + 1)) 0 0 y602) = some r := by rw [if_pos rfl] at H; exact H
            clear H
            have H := H1
            clear H1
            have H' := Az.mk H
            clear H
            obtain ⟨Ao23, co23, eo23⟩ := Kd.N_slice HO_6.out
            subst eo23
            try go_wp2
            have n0_ := Az.mk (Kd.R_drew HO_5.out)
            have n1_ := Az.mk (Kd.N_drew HO_6.out)
            have n2_ := Az.mk (Kd.R_drew HO_606002.out)
            have n3_ := Az.mk (zq8 BK594.out)
            have n4_ := Az.mk (zq8 BK605.out)
            have n5_ := Az.mk (zqd HB.out)
            clear HO_5
            clear HO_6
            clear HO_606002
            clear BK594
            clear BK605
            clear HB
            have HO_5 := n0_
            have HO_6 := n1_
            have HO_606002 := n2_
            have BK594 := n3_
            have BK605 := n4_
            have HB := n5_
            clear n0_ n1_ n2_ n3_ n4_ n5_
            refine start_ (n := 10) (S := fun w' => True) (ds := []) #[false, false, false, false, false, false, false, false, false, false] (by kernel_rfl) rfl rfl trivial (fun hHeld => ?_); refine with_tabW spec_RootPlaces.tab16 spec_RootPlaces.bits16 (fun HT_ HW_ => ?_)
            generalize wr.drew = w24 at HO_5 HO_6 HO_606002 BK594 BK605 HB hHeld ⊢
            refine zqp (i := 0) (N := some 40) (v := ?_) (a' := ?_) #[true, false, false, false, false, false, false, false, false, false] rfl rfl (any_of HT_.out (by kernel_rfl)) (fun _ _ _ h => h) (Or.inl ⟨by rfl, ?_⟩) ?_ ?_
            rotate_left
            ·intro w'
             go_simp
             with_reducible rfl
            rotate_left
            ·simp only [Act.put, List.setIfInBounds_toArray, List.set_cons_zero, List.set_cons_succ, i64_w, i32_w]
             rfl
            refine zqp (i := 1) (N := some 41) (v := ?_) (a' := ?_) #[true, true, false, false, false, false, false, false, false, false] rfl rfl (any_of HT_.out (by kernel_rfl)) (fun _ _ _ h => h) (Or.inl ⟨by rfl, ?_⟩) ?_ ?_
            rotate_left
            ·intro w'
             go_simp
             with_reducible rfl
            rotate_left
            ·simp only [Act.put, List.setIfInBounds_toArray, List.set_cons_zero, List.set_cons_succ, i64_w, i32_w]
             rfl
            refine zqp (i := 2) (N := some 42) (v := undef) (a' := ?_) #[true, true, true, false, false, false, false, false, false, false] rfl rfl (any_of HT_.out (by kernel_rfl)) (fun _ _ _ h => h) (Or.inr ⟨by rfl, rfl⟩) ?_ ?_
            rotate_left
            ·simp only [Act.put, List.setIfInBounds_toArray, List.set_cons_zero, List.set_cons_succ, i64_w, i32_w]
             rfl
            refine zqp (i := 3) (N := some 43) (v := undef) (a' := ?_) #[true, true, true, true, false, false, false, false, false, false] rfl rfl (any_of HT_.out (by kernel_rfl)) (fun _ _ _ h => h) (Or.inr ⟨by rfl, rfl⟩) ?_ ?_
            rotate_left
            ·simp only [Act.put, List.setIfInBounds_toArray, List.set_cons_zero, List.set_cons_succ, i64_w, i32_w]
             rfl
            refine zqp (i := 4) (N := some 44) (v := undef) (a' := ?_) #[true, true, true, true, true, false, false, false, false, false] rfl rfl (any_of HT_.out (by kernel_rfl)) (fun _ _ _ h => h) (Or.inr ⟨by rfl, rfl⟩) ?_ ?_
            rotate_left
            ·simp only [Act.put, List.setIfInBounds_toArray, List.set_cons_zero, List.set_cons_succ, i64_w, i32_w]
             rfl
            refine zqp (i := 5) (N := some 45) (v := undef) (a' := ?_) #[true, true, true, true, true, true, false, false, false, false] rfl rfl (any_of HT_.out (by kernel_rfl)) (fun _ _ _ h => h) (Or.inr ⟨by rfl, rfl⟩) ?_ ?_
            rotate_left
            ·simp only [Act.put, List.setIfInBounds_toArray, List.set_cons_zero, List.set_cons_succ, i64_w, i32_w]
             rfl
            refine zqp (i := 6) (N := some 46) (v := undef) (a' := ?_) #[true, true, true, true, true, true, true, false, false, false] rfl rfl (any_of HT_.out (by kernel_rfl)) (fun _ _ _ h => h) (Or.inr ⟨by rfl, rfl⟩) ?_ ?_
            rotate_left
            ·simp only [Act.put, List.setIfInBounds_toArray, List.set_cons_zero, List.set_cons_succ, i64_w, i32_w]
             rfl
            refine zqp (i := 7) (N := some 47) (v := undef) (a' := ?_) #[true, true, true, true, true, true, true, true, false, false] rfl rfl (any_of HT_.out (by kernel_rfl)) (fun _ _ _ h => h) (Or.inr ⟨by rfl, rfl⟩) ?_ ?_
            rotate_left
            ·simp only [Act.put, List.setIfInBounds_toArray, List.set_cons_zero, List.set_cons_succ, i64_w, i32_w]
             rfl
            refine zqp (i := 8) (N := some 48) (v := ?_) (a' := ?_) #[true, true, true, true, true, true, true, true, true, false] rfl rfl (any_of HT_.out (by kernel_rfl)) (fun _ _ _ h => h) (Or.inl ⟨by rfl, ?_⟩) ?_ ?_
            rotate_left
            ·intro w'
             go_simp
             with_reducible rfl
            rotate_left
            ·simp only [Act.put, List.setIfInBounds_toArray, List.set_cons_zero, List.set_cons_succ, i64_w, i32_w]
             rfl
            refine zqp (i := 9) (N := some 10) (v := ?_) (a' := ?_) #[true, true, true, true, true, true, true, true, true, true] rfl rfl (any_of HT_.out (by kernel_rfl)) (fun _ _ _ h => h) (Or.inl ⟨by rfl, ?_⟩) ?_ ?_
            rotate_left
            ·intro w'
             go_simp
             with_reducible rfl
            rotate_left
            ·simp only [Act.put, List.setIfInBounds_toArray, List.set_cons_zero, List.set_cons_succ, i64_w, i32_w]
             rfl
            refine done_ (done_of HT_.out (by kernel_rfl)) ?_
            try go_wp2
            go_roundg k3
            case measure => have := HK1.out; have := HK2.out; have := HK3.out; omega
            case rel => exact ⟨(true), (wrap64 (x11_3 + 1)), (by first | rfl | (simp; done) | (simp [*]; done)), (by first | rfl | (simp; done) | (simp [*]; done)), H', ⟨by have := HK1.out; have := HK2.out; have := HK3.out; omega⟩, ⟨by (with_reducible repeat (first | apply Kd.R_alloc | apply Kd.R_drewN | apply Kd.R_drew)); exact HO_5.out⟩, ⟨by (with_reducible repeat (first | apply Kd.N_alloc | apply Kd.N_drewN | apply Kd.N_drew)); exact HO_6.out⟩, ⟨by (with_reducible repeat (first | apply Kd.R_alloc | apply Kd.R_drewN | apply Kd.R_drew)); exact HO_606002.out⟩, ⟨by (with_reducible repeat (first | refine zq6 ?_ _ | refine zq8 ?_ | refine zq7 ?_ _)); exact BK594.out⟩, ⟨by (with_reducible repeat (first | refine zq6 ?_ _ | refine zq8 ?_ | refine zq7 ?_ _)); exact BK605.out⟩, ⟨by repeat (first | (with_reducible first | exact HB.out | apply zq2 | apply zq1 | apply zqd | refine zq3 ?_ GE594.out | refine zq3 ?_ GE605.out) | exact HB.out)⟩⟩
           ·replace c22 := Bool.eq_false_iff.mpr c22
            subst c22
            have H1 : (if 0 ≤ x11_3 then ((spec_l2Meet.f k3 0 0 y602 ((rd_T29 t599 x11_3).f0) ((rd_T29 t599 x11_3).f1) ((rd_T29 t599 x11_3).f2)).bind fun t607 => (spec_RootPlaces.l2 k3 a0 x5_2 t599 x7_1 x8_2 t607 (wrap64 (x11_3 + 1)) 0 0 y602)) else (none)) = some r := by rw [if_neg (show ¬ (false = true) by decide)] at H; exact H
            clear H
            have H := H1
            clear H1
            by_cases c25 : 0 ≤ x11_3
            ·rw [if_pos c25] at H
             have c25b0 : decide (0 ≤ x11_3) = true := decide_eq_true c25
             clear c25
             replace H := Option.bind_eq_some_iff.mp H
             obtain ⟨t607, A260, H⟩ := H
             replace H : (spec_RootPlaces.l2 k3 a0 x5_2 t599 x7_1 x8_2 t607 (wrap64 (x11_3 + 1)) 0 0 y602) = some r := H
             have A26 := Az.mk A260
             clear A260
             have H' := Az.mk H
             clear H
             obtain ⟨Ao27, co27, eo27⟩ := Kd.N_slice HO_6.out
             subst eo27
             try go_wp2
             have n0_ := Az.mk (Kd.R_drew HO_5.out)
             have n1_ := Az.mk (Kd.N_drew HO_6.out)
             have n2_ := Az.mk (Kd.R_drew HO_606002.out)
             have n3_ := Az.mk (zq8 BK594.out)
             have n4_ := Az.mk (zq8 BK605.out)
             have n5_ := Az.mk (zqd HB.out)
             clear HO_5
             clear HO_6
             clear HO_606002
             clear BK594
             clear BK605
             clear HB
             have HO_5 := n0_
             have HO_6 := n1_
             have HO_606002 := n2_
             have BK594 := n3_
             have BK605 := n4_
             have HB := n5_
             clear n0_ n1_ n2_ n3_ n4_ n5_
             have p606 : 0 ≤ (x11_3 : Int) := of_decide_eq_true (by first | (with_reducible assumption) | assumption)
             have q606 : x11_3 < (t599.length : Int) := of_decide_eq_true (by first | (with_reducible assumption) | assumption)
             obtain ⟨ad606, A606_2, c606_2, e606, hx606_0, hx606_1, hx606_2, hl606_2, hi606_2⟩ := at_T29 (Kd.N_reads' HO_6.out).2.2 x11_3 p606 q606
             cases e606
             obtain ⟨ce606, hce606, hMe606, hcc606⟩ := Kd.N_get HO_6.out z29 x11_3 p606 (by first | exact q606 | exact of_decide_eq_true (by first | (with_reducible assumption) | assumption) | (have e_ := (Kd.N_reads' HO_6.out).1; omega))
             obtain ⟨ua606_2, uc606_2, rfl, ul606_2, ge606_2⟩ := k29_openF hMe606
             have hv606_2 := hcc606 2 _ rfl
             rw [add_field _ _ 2 (by omega)] at hv606_2
             replace hv606_2 := Option.some.inj (hv606_2.symm.trans hx606_2)
             injection hv606_2 with hva_ hvn_ hvc_
             rw [hva_] at ge606_2
             rw [hvc_] at ul606_2
             have HL606_2 := Az.mk (show Kd.V k37 37 _ w.heap.size _ _ ((rd_T29 t599 x11_3).f2) from Kd.V_mk ul606_2 ge606_2)
             clear hva_ hvn_ hvc_ ge606_2 ul606_2
             clear hcc606 hce606
             have HR606_2 := Az.mk hi606_2
             have HC606_2 := Az.mk hl606_2
             clear hi606_2 hl606_2
             replace p606 := eq_true p606
             replace q606 := eq_true q606
             refine start_ (n := 10) (S := fun w' => w'.cell? ⟨gb605, 0, none⟩ = some (.int .i64 0) ∧ w'.cell? ⟨gb605, 1, none⟩ = some (.int .i64 0) ∧ w'.cell? ⟨gb605, 2, none⟩ = some (.slice Ao17 y602.length co17) ∧ w'.cell? (ad606.add ((x11_3).toNat * 3)) = some (.int .i64 ((rd_T29 t599 x11_3).f0)) ∧ w'.cell? ⟨(ad606.add ((x11_3).toNat * 3)).block, (ad606.add ((x11_3).toNat * 3)).off + 1, none⟩ = some (.int .i64 ((rd_T29 t599 x11_3).f1)) ∧ w'.cell? ⟨(ad606.add ((x11_3).toNat * 3)).block, (ad606.add ((x11_3).toNat * 3)).off + 2, none⟩ = some (.slice A606_2 ((rd_T29 t599 x11_3).f2).length c606_2)) (ds := []) #[false, false, false, false, false, false, false, false, false, false] (by kernel_rfl) rfl rfl ⟨(zq4 BK605.out 0).trans rfl, (zq4 BK605.out 1).trans rfl, (zq4 BK605.out 2).trans rfl, hx606_0, hx606_1, hx606_2⟩ (fun hHeld => ?_); refine with_tabW spec_RootPlaces.tab16 spec_RootPlaces.bits16 (fun HT_ HW_ => ?_)
             generalize wr.drew = w28 at HO_5 HO_6 HO_606002 BK594 BK605 HB HL606_2 HR606_2 hx606_0 hx606_1 hx606_2 hHeld ⊢
             refine zqp (i := 0) (N := some 40) (v := ?_) (a' := ?_) #[true, false, false, false, false, false, false, false, false, false] rfl rfl (any_of HT_.out (by kernel_rfl)) (fun _ _ _ h => h) (Or.inl ⟨by rfl, ?_⟩) ?_ ?_
             rotate_left
             ·intro w'
              go_simp
              with_reducible rfl
             rotate_left
             ·simp only [Act.put, List.setIfInBounds_toArray, List.set_cons_zero, List.set_cons_succ, i64_w, i32_w]
              rfl
             refine zqp (i := 1) (N := some 41) (v := ?_) (a' := ?_) #[true, true, false, false, false, false, false, false, false, false] rfl rfl (any_of HT_.out (by kernel_rfl)) (fun _ _ _ h => h) (Or.inl ⟨by rfl, ?_⟩) ?_ ?_
             rotate_left
             ·intro w'
              go_simp
              with_reducible rfl
             rotate_left
             ·simp only [Act.put, List.setIfInBounds_toArray, List.set_cons_zero, List.set_cons_succ, i64_w, i32_w]
              rfl
             refine zqp (i := 3) (N := some 43) (v := ?_) (a' := ?_) #[true, true, false, true, false, false, false, false, false, false] rfl rfl (any_of HT_.out (by kernel_rfl)) (fun _ _ _ h => h) (Or.inl ⟨by rfl, ?_⟩) ?_ ?_
             rotate_left
             ·intro w'
              go_simp
              with_reducible rfl
             rotate_left
             ·simp only [Act.put, List.setIfInBounds_toArray, List.set_cons_zero, List.set_cons_succ, i64_w, i32_w]
              rfl
             refine zqp (i := 4) (N := some 44) (v := ?_) (a' := ?_) #[true, true, false, true, true, false, false, false, false, false] rfl rfl (any_of HT_.out (by kernel_rfl)) (fun _ _ _ h => h) (Or.inl ⟨by rfl, ?_⟩) ?_ ?_
             rotate_left
             ·intro w'
              go_simp
              with_reducible rfl
             rotate_left
             ·simp only [Act.put, List.setIfInBounds_toArray, List.set_cons_zero, List.set_cons_succ, i64_w, i32_w]
              rfl
             refine zqp (i := 5) (N := some 45) (v := ?_) (a' := ?_) #[true, true, false, true, true, true, false, false, false, false] rfl rfl (any_of HT_.out (by kernel_rfl)) (fun _ _ _ h => h) (Or.inl ⟨by rfl, ?_⟩) ?_ ?_
             rotate_left
             ·intro w'
              go_simp
              with_reducible rfl
             rotate_left
             ·simp only [Act.put, List.setIfInBounds_toArray, List.set_cons_zero, List.set_cons_succ, i64_w, i32_w]
              rfl
             refine zqt (i := 2) (N := some 42) (v := ?_) (a' := ?_) #[true, true, true, true, true, true, false, false, false, false] rfl rfl (take_ofW HT_.out HW_.out (by kernel_rfl)) (fun _ _ _ h => h) (Or.inl ⟨by rfl, ?_⟩) hHeld ?_ ?_
             rotate_left
             ·rintro w' ⟨s0, s1, s2, s3, s4, s5⟩
              go_simp
              with_reducible rfl
             rotate_left
             ·simp only [Act.put, List.setIfInBounds_toArray, List.set_cons_zero, List.set_cons_succ, i64_w, i32_w]
              rfl
             refine zqt (i := 6) (N := some 46) (v := ?_) (a' := ?_) #[true, true, true, true, true, true, true, false, false, false] rfl rfl (take_ofW HT_.out HW_.out (by kernel_rfl)) (fun _ _ _ h => h) (Or.inl ⟨by rfl, ?_⟩) hHeld ?_ ?_
             rotate_left
             ·rintro w' ⟨s0, s1, s2, s3, s4, s5⟩
              go_simp
              with_reducible rfl
             rotate_left
             ·simp only [Act.put, List.setIfInBounds_toArray, List.set_cons_zero, List.set_cons_succ, i64_w, i32_w]
              rfl
             refine one_ (i := 7) (N := some 47) #[true, true, true, true, true, true, true, true, false, false] rfl rfl (one_of HT_.out (by kernel_rfl)) (by decide) (fun K hK => ?_)
             refine goes_ Try.func87 (by kernel_rfl) rfl #[.agg #[.int .i64 0, .int .i64 0, .slice Ao17 y602.length co17], .agg #[.int .i64 ((rd_T29 t599 x11_3).f0), .int .i64 ((rd_T29 t599 x11_3).f1), .slice A606_2 ((rd_T29 t599 x11_3).f2).length c606_2]] (by rfl) rfl rfl (by (try simp only [List.map_toArray, List.map_cons, List.map_nil]); first | done | rfl | (simp only [List.length_drop, List.length_take]; rfl)) ?_
             with_reducible refine (spec_l2Meet.calls k3 0 0 _ _ y602 ((rd_T29 t599 x11_3).f0) ((rd_T29 t599 x11_3).f1) _ _ ((rd_T29 t599 x11_3).f2) t607 _ ?side1 ?side2 ?side3 ?side4 A26.out).mono ?_
             (case side1 => repeat (first | exact (Kd.R_reads' HO_606002.out).2.2 | (with_reducible refine Kd.C_alloc ?_ _) | (with_reducible refine Kd.C_drewN ?_ _) | (with_reducible refine Kd.C_drew ?_)))
             (case side2 => exact (Kd.R_reads' HO_606002.out).2.1)
             (case side3 => repeat (first | exact (by repeat (first | (with_reducible exact HR606_2.out) | (with_reducible refine Kd.C_alloc ?_ _) | (with_reducible refine Kd.C_drewN ?_ _) | (with_reducible refine Kd.C_drew ?_) | exact HR606_2.out)) | (with_reducible refine Kd.C_alloc ?_ _) | (with_reducible refine Kd.C_drewN ?_ _) | (with_reducible refine Kd.C_drew ?_)))
             (case side4 => exact HC606_2.out)
             rintro e w29 ⟨rfl, hb⟩
             have HS3_ := (hb.cell (World.block_lt_of_cell? _ _ (hHeld.2.2.2.1))).trans (hHeld.2.2.2.1)
             have HS4_ := (hb.cell (World.block_lt_of_cell? _ _ (hHeld.2.2.2.2.1))).trans (hHeld.2.2.2.2.1)
             have HS5_ := (hb.cell (World.block_lt_of_cell? _ _ (hHeld.2.2.2.2.2))).trans (hHeld.2.2.2.2.2)
             refine ⟨_, rfl, ?_⟩
             have n0_ := Az.mk (Kd.R_below (by (with_reducible repeat (first | apply Kd.R_alloc | apply Kd.R_drewN | apply Kd.R_drew)); exact HO_5.out) hb)
             have n1_ := Az.mk (Kd.N_below (by (with_reducible repeat (first | apply Kd.N_alloc | apply Kd.N_drewN | apply Kd.N_drew)); exact HO_6.out) hb)
             have n2_ := Az.mk (Kd.R_below (by (with_reducible repeat (first | apply Kd.R_alloc | apply Kd.R_drewN | apply Kd.R_drew)); exact HO_606002.out) hb)
             have n3_ := Az.mk (Kd.V_below (by (with_reducible repeat (first | apply Kd.V_alloc | apply Kd.V_drewN | apply Kd.V_drew)); exact HL606_2.out) hb)
             have n4_ := Az.mk (blk_below (g := gb594) (o := .cells #[.int .i64 a1_0, .slice A1_1 l1_1.length c1_1] 57 (0, 0)) (by (with_reducible repeat (first | refine zq6 ?_ _ | refine zq8 ?_ | refine zq7 ?_ _)); exact BK594.out) hb)
             have n5_ := Az.mk (blk_below (g := gb605) (o := .cells #[.int .i64 0, .int .i64 0, .slice Ao17 y602.length co17] 29 (0, 0)) (by (with_reducible repeat (first | refine zq6 ?_ _ | refine zq8 ?_ | refine zq7 ?_ _)); exact BK605.out) hb)
             have n6_ := Az.mk (Kd.C_below (by repeat (first | (with_reducible exact HR606_2.out) | (with_reducible refine Kd.C_alloc ?_ _) | (with_reducible refine Kd.C_drewN ?_ _) | (with_reducible refine Kd.C_drew ?_) | exact HR606_2.out)) hb)
             have n7_ := Az.mk (below_step (by repeat (first | (with_reducible first | exact HB.out | apply zq2 | apply zq1 | apply zqd | refine zq3 ?_ GE594.out | refine zq3 ?_ GE605.out) | exact HB.out)) hb)
             clear HO_5
             clear HO_6
             clear HO_606002
             clear HL606_2
             clear BK594
             clear BK605
             clear HR606_2
             clear HB
             have HO_5 := n0_
             have HO_6 := n1_
             have HO_606002 := n2_
             have HL606_2 := n3_
             have BK594 := n4_
             have BK605 := n5_
             have HR606_2 := n6_
             have HB := n7_
             clear n0_ n1_ n2_ n3_ n4_ n5_ n6_ n7_
             (try clear hb)
             (try clear hb2)
             (try clear hk)
             (try clear hi)
             refine hK.out _ _ ⟨(zq4 BK605.out 0).trans rfl, (zq4 BK605.out 1).trans rfl, (zq4 BK605.out 2).trans rfl, HS3_, HS4_, HS5_⟩ (fun hHeld => ?_)
             clear hK K
             refine norm_ (a' := ?_) ?_ ?_
             rotate_left
             ·show Act.put _ (some 47) _ = _
              simp only [Act.put, List.setIfInBounds_toArray, List.set_cons_zero, List.set_cons_succ, i64_w, i32_w]
              rfl
             refine zqp (i := 8) (N := some 48) (v := ?_) (a' := ?_) #[true, true, true, true, true, true, true, true, true, false] rfl rfl (any_of HT_.out (by kernel_rfl)) (fun _ _ _ h => h) (Or.inl ⟨by rfl, ?_⟩) ?_ ?_
             rotate_left
             ·intro w'
              go_simp
              with_reducible rfl
             rotate_left
             ·simp only [Act.put, List.setIfInBounds_toArray, List.set_cons_zero, List.set_cons_succ, i64_w, i32_w]
              rfl
             refine zqp (i := 9) (N := some 10) (v := ?_) (a' := ?_) #[true, true, true, true, true, true, true, true, true, true] rfl rfl (any_of HT_.out (by kernel_rfl)) (fun _ _ _ h => h) (Or.inl ⟨by rfl, ?_⟩) ?_ ?_
             rotate_left
             ·intro w'
              go_simp
              with_reducible rfl
             rotate_left
             ·simp only [Act.put, List.setIfInBounds_toArray, List.set_cons_zero, List.set_cons_succ, i64_w, i32_w]
              rfl
             refine done_ (done_of HT_.out (by kernel_rfl)) ?_
             try go_wp2
             go_roundg k3
             case measure => have := HK1.out; have := HK2.out; have := HK3.out; omega
             case rel => exact ⟨(t607), (wrap64 (x11_3 + 1)), (by first | rfl | (simp; done) | (simp [*]; done)), (by first | rfl | (simp; done) | (simp [*]; done)), H', ⟨by have := HK1.out; have := HK2.out; have := HK3.out; omega⟩, ⟨by (with_reducible repeat (first | apply Kd.R_alloc | apply Kd.R_drewN | apply Kd.R_drew)); exact HO_5.out⟩, ⟨by (with_reducible repeat (first | apply Kd.N_alloc | apply Kd.N_drewN | apply Kd.N_drew)); exact HO_6.out⟩, ⟨by (with_reducible repeat (first | apply Kd.R_alloc | apply Kd.R_drewN | apply Kd.R_drew)); exact HO_606002.out⟩, ⟨by (with_reducible repeat (first | refine zq6 ?_ _ | refine zq8 ?_ | refine zq7 ?_ _)); exact BK594.out⟩, ⟨by (with_reducible repeat (first | refine zq6 ?_ _ | refine zq8 ?_ | refine zq7 ?_ _)); exact BK605.out⟩, ⟨by repeat (first | (with_reducible first | exact HB.out | apply zq2 | apply zq1 | apply zqd | refine zq3 ?_ GE594.out | refine zq3 ?_ GE605.out) | exact HB.out)⟩⟩
            ·rw [if_neg c25] at H
             exact absurd H (by simp)
          ·rw [if_neg c21] at H
           have c21b0 : decide (x11_3 < (t599.length : Int)) = false := decide_eq_false c21
           clear c21
           by_cases c30 : x10_3 = true
           ·subst c30
            have H1 : (if x5_2.length < 8796093022208 then (spec_RootPlaces.l1 k3 a0 (x5_2 ++ [(⟨x7_1, x8_2⟩ : S37)]) t599 x7_1 (wrap64 (x8_2 + 1))) else (none)) = some r := by rw [if_pos rfl] at H; exact H
            clear H
            have H := H1
            clear H1
            by_cases c31 : x5_2.length < 8796093022208
            ·rw [if_pos c31] at H
             have LMc31 := Az.mk c31
             clear c31
             obtain ⟨y608, hy608⟩ : ∃ y_ : List (S37), y_ = (x5_2 ++ [(⟨x7_1, x8_2⟩ : S37)]) := ⟨_, rfl⟩
             replace H : (spec_RootPlaces.l1 k3 a0 y608 t599 x7_1 (wrap64 (x8_2 + 1))) = some r := by first | (rw [hy608]; with_reducible exact H) | (have H2_ := (Option.bind_some _ _).symm.trans H; rw [hy608]; with_reducible exact H2_) | (have H2_ := (Option.bind_some _ _).symm.trans H; with_reducible exact H2_) | with_reducible exact H | (rw [hy608]; exact H) | exact H
             have Ny608 := Az.mk hy608
             clear hy608
             have H' := Az.mk H
             clear H
             obtain ⟨Ao32, co32, eo32⟩ := Kd.N_slice HO_6.out
             subst eo32
             go_wp2_with (first | ((with_reducible refine gate_builtin (b := .append) (xs := #[.tmp 50, .tmp 54]) rfl ?_); at_builtin; refine Kd.R_append k37 (w0 := w) w.heap.size rfl (.tmp 50) (.tmp 54) 27 37 (.agg #[(.int .i64 0), (.int .i64 0)]) 16 rfl Try.underlying27 info37 rfl (by decide) (by omega) u5 x5_2 (⟨x7_1, x8_2⟩ : S37) [.int .i64 x7_1, .int .i64 x8_2] (fun k_ => some k_ ≠ (.slice Ao17 y602.length co17 : Value).ownBlock) (fun _ => False) rfl rfl ?aP (fun _ hk => hk.elim) ?aF ?aO ?aB ?aS ?aL ?_; (case aP => exact k37_mkM _ _ _ (⟨x7_1, x8_2⟩ : S37)); (case aB => exact (by repeat (first | (with_reducible first | exact HB.out | apply zq2 | apply zq1 | apply zqd | refine zq3 ?_ GE594.out | refine zq3 ?_ GE605.out) | exact HB.out))); (case aF => exact (fun k_ hk => Kd.fresh' (Kd.R_lt (by (with_reducible repeat (first | apply Kd.R_alloc | apply Kd.R_drewN | apply Kd.R_drew)); exact HO_606002.out)) k_ hk)); (case aO => exact (by (with_reducible repeat (first | apply Kd.R_alloc | apply Kd.R_drewN | apply Kd.R_drew)); exact HO_5.out)); (case aS => exact (below_size (by repeat (first | (with_reducible first | exact HB.out | apply zq2 | apply zq1 | apply zqd | refine zq3 ?_ GE594.out | refine zq3 ?_ GE605.out) | exact HB.out)))); (case aL => have := LMc31.out; omega); intro v609 w33 ho hb hg hat; rw [← Ny608.out] at ho; have n0_ := Az.mk (Kd.N_afterv (ok := (fun k_ => some k_ ≠ (.slice Ao17 y602.length co17 : Value).ownBlock ∧ k_ ≠ gb594 ∧ k_ ≠ gb605)) (by (with_reducible repeat (first | apply Kd.N_alloc | apply Kd.N_drewN | apply Kd.N_drew)); exact Kd.N_mono HO_6.out (fun _ hk => ⟨⟨hk.2.1, ⟨hk.2.2.1, hk.2.2.2⟩⟩, hk.1⟩)) hg hat); have n1_ := Az.mk (Kd.R_after (ok := (fun _ => True)) (by (with_reducible repeat (first | apply Kd.R_alloc | apply Kd.R_drewN | apply Kd.R_drew)); exact Kd.R_mono HO_606002.out (fun _ hk => ⟨trivial, hk⟩)) hg hat); have n2_ := Az.mk (blk_grown (g := gb594) (o := .cells #[.int .i64 a1_0, .slice A1_1 l1_1.length c1_1] 57 (0, 0)) (by (with_reducible repeat (first | refine zq6 ?_ _ | refine zq8 ?_ | refine zq7 ?_ _)); exact BK594.out) hg (Kd.R_ne HO_5.out BK594.out (by decide))); have n3_ := Az.mk (blk_grown (g := gb605) (o := .cells #[.int .i64 0, .int .i64 0, .slice Ao17 y602.length co17] 29 (0, 0)) (by (with_reducible repeat (first | refine zq6 ?_ _ | refine zq8 ?_ | refine zq7 ?_ _)); exact BK605.out) hg (Kd.R_ne HO_5.out BK605.out (by decide))); have n4_ := Az.mk (hb); have n5_ := Az.mk (ho); clear HO_6; clear HO_606002; clear BK594; clear BK605; clear HB; clear HO_5; have HO_6 := n0_; have HO_606002 := n1_; have BK594 := n2_; have BK605 := n3_; have HB := n4_; have HO610 := n5_; clear n0_ n1_ n2_ n3_ n4_ n5_; clear ho hb hg hat))
             go_roundg k3
             case measure => have := HK1.out; have := HK2.out; have := HK3.out; omega
             case rel => exact ⟨(y608), (wrap64 (x8_2 + 1)), (by first | rfl | (simp; done) | (simp [*]; done)), H', ⟨by have := HK1.out; have := HK2.out; have := HK3.out; omega⟩, ⟨by (with_reducible repeat (first | apply Kd.R_alloc | apply Kd.R_drewN | apply Kd.R_drew)); exact Kd.R_mono HO610.out (fun _ hk => trivial)⟩, ⟨by (with_reducible repeat (first | apply Kd.N_alloc | apply Kd.N_drewN | apply Kd.N_drew)); exact Kd.N_mono HO_6.out (fun _ hk => ⟨hk.2, hk.1.2.1⟩)⟩, ⟨by (with_reducible repeat (first | refine zq6 ?_ _ | refine zq8 ?_ | refine zq7 ?_ _)); exact BK594.out⟩, ⟨by repeat (first | (with_reducible first | exact HB.out | apply zq2 | apply zq1 | apply zqd | refine zq3 ?_ GE594.out | refine zq3 ?_ GE605.out) | exact HB.out)⟩⟩
            ·rw [if_neg c31] at H
             exact absurd H (by simp)
           ·replace c30 := Bool.eq_false_iff.mpr c30
            subst c30
            have H1 : (spec_RootPlaces.l1 k3 a0 x5_2 t599 x7_1 (wrap64 (x8_2 + 1))) = some r := by rw [if_neg (show ¬ (false = true) by decide)] at H; exact H
            clear H
            have H := H1
            clear H1
            have H' := Az.mk H
            clear H
            obtain ⟨Ao34, co34, eo34⟩ := Kd.N_slice HO_6.out
            subst eo34
            go_wp2
            go_roundg k3
            case measure => have := HK1.out; have := HK2.out; have := HK3.out; omega
            case rel => exact ⟨(x5_2), (wrap64 (x8_2 + 1)), (by first | rfl | (simp; done) | (simp [*]; done)), H', ⟨by have := HK1.out; have := HK2.out; have := HK3.out; omega⟩, ⟨by (with_reducible repeat (first | apply Kd.R_alloc | apply Kd.R_drewN | apply Kd.R_drew)); exact Kd.R_mono HO_5.out (fun _ hk => trivial)⟩, ⟨by (with_reducible repeat (first | apply Kd.N_alloc | apply Kd.N_drewN | apply Kd.N_drew)); exact Kd.N_mono HO_6.out (fun _ hk => ⟨hk.1, hk.2.2.1⟩)⟩, ⟨by (with_reducible repeat (first | refine zq6 ?_ _ | refine zq8 ?_ | refine zq7 ?_ _)); exact BK594.out⟩, ⟨by repeat (first | (with_reducible first | exact HB.out | apply zq2 | apply zq1 | apply zqd | refine zq3 ?_ GE594.out | refine zq3 ?_ GE605.out) | exact HB.out)⟩⟩
       ·rw [if_neg c14] at H
        have c14b0 : decide (x8_2 < 12) = false := decide_eq_false c14
        clear c14
        have H' := Az.mk H
        clear H
        go_wp2
        go_roundg k2
        case measure => have := HK1.out; have := HK2.out; omega
        case rel => exact ⟨(x5_2), (wrap64 (x7_1 + 1)), (by first | rfl | (simp; done) | (simp [*]; done)), H', ⟨by have := HK1.out; have := HK2.out; omega⟩, ⟨by (with_reducible repeat (first | apply Kd.R_alloc | apply Kd.R_drewN | apply Kd.R_drew)); exact HO_5.out⟩, ⟨by (with_reducible repeat (first | apply Kd.N_alloc | apply Kd.N_drewN | apply Kd.N_drew)); exact HO_6.out⟩, ⟨by (with_reducible repeat (first | refine zq6 ?_ _ | refine zq8 ?_ | refine zq7 ?_ _)); exact BK594.out⟩, ⟨by repeat (first | (with_reducible first | exact HB.out | apply zq2 | apply zq1 | apply zqd | refine zq3 ?_ GE594.out) | exact HB.out)⟩⟩
    ·rw [if_neg c13] at H
     have c13b0 : decide (x7_1 < a0) = false := decide_eq_false c13
     clear c13
     obtain rfl := Option.some.inj H
     go_wp2
     go_ret
     exact ⟨_, by first | rfl | (simp [errW_none, errW_some] <;> rfl) | (simp [*, errW_none, errW_some] <;> rfl), by (with_reducible repeat (first | apply Kd.R_alloc | apply Kd.R_drewN | apply Kd.R_drew)); exact HO_5.out, by repeat (first | (with_reducible first | exact HB.out | apply zq2 | apply zq1 | apply zqd | refine zq3 ?_ GE594.out) | exact HB.out)⟩
 ·replace c4 := Bool.eq_false_iff.mpr c4
  subst c4
  have H1 : (some y595) = some r := by rw [if_neg (show ¬ (false = true) by decide)] at H; exact H
  clear H
  have H := H1
  clear H1
  obtain rfl := Option.some.inj H
  go_enter Try.func44, Try.ntmps44
  go_wp2_with (first | ((with_reducible refine zqg (N := 3) rfl ?_); refine zqb ?hg (N := 3) ?hd (cs := #[.int .i64 a1_0, .slice A1_1 l1_1.length c1_1]) (t := 57) ?hr ?_; (case hd => rfl); (case hg => rfl); (case hr => first | (go_simp; done) | (go_simp; rfl)); intro gb594 hg w35 hbox hb; have n0_ := Az.mk (below_step (by repeat (first | (with_reducible first | exact HB.out | apply zq2 | apply zq1 | apply zqd) | exact HB.out)) hb); have n1_ := Az.mk (hbox); have n2_ := Az.mk ((by rw [hg]; exact (below_size (by repeat (first | (with_reducible first | exact HB.out | apply zq2 | apply zq1 | apply zqd) | exact HB.out))) : w.heap.size ≤ gb594)); have n3_ := Az.mk ((by rw [hg]; exact (below_size (by repeat (first | (with_reducible first | exact HB.out | apply zq2 | apply zq1 | apply zqd) | exact HB.out))) : w.heap.size ≤ gb594)); clear HB; have HB := n0_; have BK594 := n1_; have GW594 := n2_; have GE594 := n3_; clear n0_ n1_ n2_ n3_; clear hb hbox hg) | ((with_reducible refine zqg (N := 12) rfl ?_); refine Kd.R_lit k37 _ 37 ?hg (N := 12) ?hd (xs := ([] : List (S37))) (inner := []) (ok := fun _ => True) (okp := fun _ => True) ?hr ?hp (fun _ hk => hk) trivial (Below.refl _ _) (Nat.le_refl _) (by simp) ?_; (case hd => rfl); (case hg => rfl); (case hr => first | (go_simp; done) | (go_simp; rfl)); (case hp => exact (Reps.none _ _)); intro v596 w36 ho37 hb hg_ hnew_; clear hg_ hnew_; (first | rw [← Ny595.out] at ho37 | (simp only [Int.reduceToNat] at ho37; rw [← Ny595.out] at ho37)); have n0_ := Az.mk (Kd.R_lower ho37 (below_size (by repeat (first | (with_reducible first | exact HB.out | apply zq2 | apply zq1 | apply zqd | refine zq3 ?_ GE594.out) | exact HB.out)))); have n1_ := Az.mk (blk_below (g := gb594) (o := .cells #[.int .i64 a1_0, .slice A1_1 l1_1.length c1_1] 57 (0, 0)) (by (with_reducible repeat (first | refine zq6 ?_ _ | refine zq8 ?_ | refine zq7 ?_ _)); exact BK594.out) hb); have n2_ := Az.mk (below_step (by repeat (first | (with_reducible first | exact HB.out | apply zq2 | apply zq1 | apply zqd | refine zq3 ?_ GE594.out) | exact HB.out)) hb); clear BK594; clear HB; have HO597 := n0_; have BK594 := n1_; have HB := n2_; clear n0_ n1_ n2_; clear hb ho37; have hcz38_0 : w36.cell? ⟨gb594, 0, none⟩ = some (.int .i64 a1_0) := (zq4 BK594.out 0).trans rfl; have hcz38_1 : w36.cell? ⟨gb594, 1, none⟩ = some (.slice A1_1 l1_1.length c1_1) := (zq4 BK594.out 1).trans rfl; have hfz38_0 := zq5 BK594.out 0; have hfz38_1 := zq5 BK594.out 1) | ((with_reducible refine gate_callee (f := 36) rfl ?_); refine zq9 (some 15) rfl rfl Try.func36 (by kernel_rfl) rfl #[.int .i64 a0, .agg #[.int .i64 a1_0, .slice A1_1 l1_1.length c1_1]] rfl (by (try simp only [List.map_toArray, List.map_cons, List.map_nil]); first | done | rfl | (simp only [List.length_drop, List.length_take]; rfl)) ?_; (with_reducible refine (spec_RootOk.calls k a0 a1_0 _ _ l1_1 false _ ?side1 ?side2 A3.out).mono ?_); (case side1 => repeat (first | exact (Kd.C_below HR1_1.out HB.out) | (with_reducible refine Kd.C_alloc ?_ _) | (with_reducible refine Kd.C_drewN ?_ _) | (with_reducible refine Kd.C_drew ?_))); (case side2 => exact HC1_1.out); rintro e w39 ⟨rfl, hb⟩; refine ⟨_, rfl, ?_⟩; have n0_ := Az.mk (Kd.R_below (by (with_reducible repeat (first | apply Kd.R_alloc | apply Kd.R_drewN | apply Kd.R_drew)); exact HO597.out) hb); have n1_ := Az.mk (blk_below (g := gb594) (o := .cells #[.int .i64 a1_0, .slice A1_1 l1_1.length c1_1] 57 (0, 0)) (by (with_reducible repeat (first | refine zq6 ?_ _ | refine zq8 ?_ | refine zq7 ?_ _)); exact BK594.out) hb); have n2_ := Az.mk (below_step (by repeat (first | (with_reducible first | exact HB.out | apply zq2 | apply zq1 | apply zqd | refine zq3 ?_ GE594.out) | exact HB.out)) hb); clear HO597; clear BK594; clear HB; have HO597 := n0_; have BK594 := n1_; have HB := n2_; clear n0_ n1_ n2_; (try clear hb); (try clear hb2); (try clear hk); (try clear hi)))
  go_ret
  exact ⟨_, by first | rfl | (simp [errW_none, errW_some] <;> rfl) | (simp [*, errW_none, errW_some] <;> rfl), by (with_reducible repeat (first | apply Kd.R_alloc | apply Kd.R_drewN | apply Kd.R_drew)); exact HO597.out, by repeat (first | (with_reducible first | exact HB.out | apply zq2 | apply zq1 | apply zqd | refine zq3 ?_ GE594.out) | exact HB.out)⟩
end Go.Proofs.Ytkoimmeghdbodaa.Print
namespace Go.Proofs.Ytkoimmeghdbodaa.Pure
open Go.RowKit Go.Lib Go.Sort Go.Proofs.Ytkoimmeghdbodaa.Print Go.Proofs.YtkoimmeghdbodaaW.PrintWords Go.Proofs.YtkoimmeghdbodaaW.PrintLast
set_option linter.unusedSimpArgs false
set_option linter.unusedVariables false
theorem ltPl_iff (x y : S37) : ltPl x y = true ↔ x.f0 < y.f0 ∨ (x.f0 = y.f0 ∧ x.f1 < y.f1) := by
  unfold ltPl
  rw [decide_eq_true_iff]
theorem ltPl_trans {x y z : S37} (h1 : ltPl x y = true) (h2 : ltPl y z = true) : ltPl x z = true := by
  rw [ltPl_iff] at *
  omega
theorem ltPl_of_le {x y : S37} (h : ltPl y x = false) (hne : x ≠ y) : ltPl x y = true := by
  rw [Bool.eq_false_iff, Ne, ltPl_iff] at h
  rw [ltPl_iff]
  apply Classical.byContradiction
  intro hc
  apply hne
  cases x; cases y
  simp only at h hc
  simp only [S37.mk.injEq]
  omega
theorem strict_unique : ∀ (l m : List S37), l.Pairwise (fun x y => ltPl x y = true) → m.Pairwise (fun x y => ltPl x y = true) → (∀ x, x ∈ l ↔ x ∈ m) → l = m
  | [], [], _, _, _ => rfl
  | [], b :: m, _, _, h => absurd ((h b).2 (by simp)) (by simp)
  | a :: l, [], _, _, h => absurd ((h a).1 (by simp)) (by simp)
  | a :: l, b :: m, hl, hm, h => by
    have hl := List.pairwise_cons.1 hl
    have hm := List.pairwise_cons.1 hm
    have irr : ∀ x : S37, ltPl x x = false := fun x => by rw [Bool.eq_false_iff, Ne, ltPl_iff]; omega
    have eab : a = b := by
      rcases List.mem_cons.1 ((h a).1 (by simp)) with e | e
      · exact e
      · rcases List.mem_cons.1 ((h b).2 (by simp)) with e2 | e2
        · exact e2.symm
        · have := ltPl_trans (hm.1 a e) (hl.1 b e2)
          rw [irr] at this
          cases this
    subst eab
    have := strict_unique l m hl.2 hm.2 (fun x => by
      constructor
      · intro hx
        rcases List.mem_cons.1 ((h x).1 (List.mem_cons_of_mem _ hx)) with e | e
        · have := hl.1 x hx
          rw [e, irr] at this
          cases this
        · exact e
      · intro hx
        rcases List.mem_cons.1 ((h x).2 (List.mem_cons_of_mem _ hx)) with e | e
        · have := hm.1 x hx
          rw [e, irr] at this
          cases this
        · exact e)
    rw [this]
theorem sortPl_mem (l : List S37) (x : S37) : x ∈ sortPl l.toArray ↔ x ∈ l := by
  unfold sortPl
  rw [List.mem_mergeSort]
theorem sortPl_sorted (l : List S37) : (sortPl l.toArray).Pairwise (fun x y => ltPl y x = false) := by
  unfold sortPl
  have h := List.pairwise_mergeSort (le := fun x y : S37 => !ltPl y x) (fun a b c h1 h2 => by
    simp only [Bool.not_eq_true'] at *
    rw [Bool.eq_false_iff, Ne, ltPl_iff] at *
    omega) (fun a b => by
    cases h1 : ltPl b a
    · rfl
    · cases h2 : ltPl a b
      · rfl
      · rw [ltPl_iff] at h1 h2
        omega) l
  exact h.imp (fun h => by simpa using h)
theorem compact_mem (d : Array S37) (x : S37) : ∀ m : Nat, m ≤ d.size → (x ∈ compactUpTo d m ↔ ∃ j, j < m ∧ d[j]! = x) := by
  intro m
  induction m with
  | zero => intro _; simp [compactUpTo]
  | succ m ih =>
    intro hm
    rw [compactUpTo_succ, List.mem_append, ih (by omega)]
    constructor
    · rintro (⟨j, h1, h2⟩ | h)
      · exact ⟨j, by omega, h2⟩
      · by_cases c : keeps d m = true
        · rw [if_pos c] at h
          exact ⟨m, by omega, (List.mem_singleton.1 h).symm⟩
        · rw [if_neg c] at h
          simp at h
    · rintro ⟨j, h1, h2⟩
      by_cases e : j < m
      · exact Or.inl ⟨j, e, h2⟩
      · have e : j = m := by omega
        subst e
        by_cases c : keeps d j = true
        · rw [if_pos c]
          exact Or.inr (by rw [h2]; simp)
        · left
          unfold keeps at c
          rw [decide_eq_true_iff] at c
          have c1 : j ≠ 0 := fun h => c (Or.inl h)
          have c2 : d[j]! = d[j - 1]! := Classical.byContradiction fun h => c (Or.inr h)
          exact ⟨j - 1, by omega, by rw [← c2]; exact h2⟩
theorem compact_strict (d : Array S37) (hs : ∀ i j, i < j → j < d.size → ltPl d[j]! d[i]! = false) : ∀ m : Nat, m ≤ d.size → (compactUpTo d m).Pairwise (fun x y => ltPl x y = true) := by
  intro m
  induction m with
  | zero => intro _; simp [compactUpTo]
  | succ m ih =>
    intro hm
    rw [compactUpTo_succ]
    by_cases c : keeps d m = true
    · rw [if_pos c, List.pairwise_append]
      refine ⟨ih (by omega), by simp, fun x hx y hy => ?_⟩
      rw [List.mem_singleton.1 hy]
      obtain ⟨j, hj, rfl⟩ := (compact_mem d x m (by omega)).1 hx
      unfold keeps at c
      rw [decide_eq_true_iff] at c
      have c2 := c.resolve_left (by omega)
      have h1 := ltPl_of_le (hs (m - 1) m (by omega) (by omega)) (fun e => c2 e.symm)
      by_cases e : j = m - 1
      · rw [e]; exact h1
      · by_cases e2 : d[j]! = d[m - 1]!
        · rw [e2]; exact h1
        · exact ltPl_trans (ltPl_of_le (hs j (m - 1) (by omega) (by omega)) e2) h1
    · rw [if_neg c, List.append_nil]
      exact ih (by omega)
theorem compactPl_mem (l : List S37) (x : S37) : x ∈ compactPl l ↔ x ∈ l := by
  unfold compactPl
  have e : (sortPl l.toArray).toArray.size = (sortPl l.toArray).length := by simp
  rw [compact_mem _ _ _ (by rw [e]; exact Nat.le_refl _), ← sortPl_mem l x, List.mem_iff_getElem]
  constructor
  · rintro ⟨j, h1, h2⟩
    exact ⟨j, h1, by rw [← h2, getElem!_pos _ j (by simpa using h1)]; simp⟩
  · rintro ⟨j, h1, h2⟩
    exact ⟨j, h1, by rw [← h2, getElem!_pos _ j (by simpa using h1)]; simp⟩
theorem compactPl_strict (l : List S37) : (compactPl l).Pairwise (fun x y => ltPl x y = true) := by
  unfold compactPl
  have hsz : (sortPl l.toArray).toArray.size = (sortPl l.toArray).length := by simp
  refine compact_strict _ (fun i j h1 h2 => ?_) _ (by simp)
  have h := List.pairwise_iff_getElem.1 (sortPl_sorted l) i j (by simp at h2; omega) (by simpa using h2) h1
  rw [getElem!_pos _ i (by omega), getElem!_pos _ j h2]
  simpa using h
def gr (k : Nat) : S37 := ⟨((k / 12 : Nat) : Int), ((k % 12 : Nat) : Int)⟩
def hit (ps : List S29) (p : S37) : Bool := ps.any fun q => meetB [p] q.f2
def gridF (ps : List S29) (k : Nat) : List S37 := ((List.range k).map gr).filter (hit ps)
theorem gridF_succ (ps : List S29) (k : Nat) : gridF ps (k + 1) = gridF ps k ++ if hit ps (gr k) = true then [gr k] else [] := by
  unfold gridF
  rw [List.range_succ, List.map_append, List.filter_append]
  congr 1
  by_cases h : hit ps (gr k) = true
  · simp [h]
  · simp [h]
theorem gridF_len (ps : List S29) (k : Nat) : (gridF ps k).length ≤ k := by
  unfold gridF
  exact Nat.le_trans (List.length_filter_le _ _) (by simp)
theorem gr_lt {i j : Nat} (h : i < j) : ltPl (gr i) (gr j) = true := by
  rw [ltPl_iff]
  unfold gr
  simp only
  omega
theorem gridF_strict (ps : List S29) (k : Nat) : (gridF ps k).Pairwise (fun x y => ltPl x y = true) := by
  unfold gridF
  refine List.Pairwise.filter _ ?_
  rw [List.pairwise_map]
  exact List.pairwise_lt_range.imp (fun h => gr_lt h)
theorem hit_iff (ps : List S29) (p : S37) : hit ps p = true ↔ p ∈ placesAll ps := by
  unfold hit placesAll
  rw [List.any_eq_true, List.mem_flatMap]
  constructor
  · rintro ⟨q, hq, h⟩
    obtain ⟨x, h1, h2⟩ := (meetB_iff _ _).1 h
    rw [List.mem_singleton.1 h1] at h2
    exact ⟨q, hq, h2⟩
  · rintro ⟨q, hq, h⟩
    exact ⟨q, hq, (meetB_iff _ _).2 ⟨p, by simp, h⟩⟩
theorem gr_at {n : Int} {p : S37} (h : PlaceIn n p) : ∃ k : Nat, (k : Int) < 12 * n ∧ gr k = p := by
  obtain ⟨⟨h0, h1⟩, h2, h3⟩ := h
  refine ⟨p.f0.toNat * 12 + p.f1.toNat, by omega, ?_⟩
  unfold gr
  cases p
  simp only at *
  simp only [S37.mk.injEq]
  omega
theorem rootPl_grid (n tx : Int) (vs : List S65) (h : rootB n tx vs = true) : rootPl n tx vs = gridF (ptrs vs) (12 * n).toNat := by
  unfold rootPl
  rw [if_pos h]
  unfold rootB at h
  simp only [Bool.and_eq_true, decide_eq_true_iff] at h
  have hg := vols_good h.2.2.2.1
  refine strict_unique _ _ (compactPl_strict _) (gridF_strict _ _) fun x => ?_
  rw [compactPl_mem, ← hit_iff]
  unfold gridF
  rw [List.mem_filter, List.mem_map]
  refine ⟨fun hx => ⟨?_, hx⟩, fun hx => hx.2⟩
  obtain ⟨q, hq, hxq⟩ := List.mem_flatMap.1 ((hit_iff _ _).1 hx)
  have hpg := (of_decide_eq_true (hg.2.2 q hq)).2
  have hin : PlaceIn n x := by
    rcases hpg with hh | hh
    · rw [List.eq_nil_of_length_eq_zero hh.2.2] at hxq
      simp at hxq
    · obtain ⟨i, hi, rfl⟩ := List.getElem_of_mem hxq
      have := (hh.2.2.2 i hi).1
      simpa [plAt, List.getD, hi] using this
  obtain ⟨k, hk, e⟩ := gr_at hin
  exact ⟨k, List.mem_range.2 (by omega), e⟩
theorem pl_l2 (n : Int) (ps : List S29) (hl : ps.length ≤ 12) (hF : ∀ p ∈ ps, p.f2.length ≤ 1048576) (acc : List S37) (ha : acc.length ≤ 1000) (x7 x8 : Nat) (h8 : x8 < 12) {r : List S37} (b0 : Bool)
    (K : Ev (fun k => spec_RootPlaces.l1 k n (acc ++ if b0 = true then [(⟨(x7 : Int), (x8 : Int)⟩ : S37)] else []) ps (x7 : Int) ((x8 + 1 : Nat) : Int)) r) (d : Nat) :
    ∀ (i : Nat) (b : Bool), i + d = ps.length → (b || (ps.drop i).any fun q => meetB [(⟨(x7 : Int), (x8 : Int)⟩ : S37)] q.f2) = b0 → Ev (fun k => spec_RootPlaces.l2 k n acc ps (x7 : Int) (x8 : Int) b (i : Int) 0 0 [(⟨(x7 : Int), (x8 : Int)⟩ : S37)]) r := by
  have e8 : wrap64 ((x8 : Int) + 1) = ((x8 + 1 : Nat) : Int) := by rw [wrap_ok (by omega)]; omega
  induction d with
  | zero =>
    intro i b hi hb
    rw [List.drop_of_length_le (by omega), List.any_nil, Bool.or_false] at hb
    subst hb
    refine Ev.next ?_
    simp only [spec_RootPlaces.l2, e8]
    clear e8
    refine Ev.neg (by omega) ?_
    cases b
    · refine Ev.neg (by simp) ?_
      simpa using K
    · refine Ev.pos rfl (Ev.pos (by omega) ?_)
      simpa using K
  | succ d ih =>
    intro i b hi hb
    have e : wrap64 ((i : Int) + 1) = ((i + 1 : Nat) : Int) := by rw [wrap_ok (by omega)]; omega
    have hpi := hF _ (getD_mem (z := z29) (i := i) (l := ps) (by omega))
    rw [drop_getD ps z29 i (by omega), List.any_cons] at hb
    refine Ev.next ?_
    simp only [spec_RootPlaces.l2, e, rd29n]
    clear e e8
    refine Ev.pos (by omega) ?_
    cases b
    · refine Ev.neg (by simp) (Ev.pos (by omega) ?_)
      have hm := meet_ev (⟨0, 0, [(⟨(x7 : Int), (x8 : Int)⟩ : S37)]⟩ : S29) (ps.getD i z29) (by simp) hpi
      exact Ev.bind hm (ih (i + 1) _ (by omega) (by rw [Bool.false_or] at hb; exact hb))
    · exact Ev.pos rfl (ih (i + 1) true (by omega) (by rw [Bool.true_or] at hb ⊢; exact hb))
theorem gr_mk (x7 x8 : Nat) (h : x8 < 12) : gr (12 * x7 + x8) = (⟨(x7 : Int), (x8 : Int)⟩ : S37) := by
  unfold gr
  have h1 : (12 * x7 + x8) / 12 = x7 := by omega
  have h2 : (12 * x7 + x8) % 12 = x8 := by omega
  rw [h1, h2]
theorem pl_l1 (n : Int) (ps : List S29) (hl : ps.length ≤ 12) (hF : ∀ p ∈ ps, p.f2.length ≤ 1048576) (x7 : Nat) (h7 : x7 < 10) {r : List S37} (K : Ev (fun k => spec_RootPlaces.l0 k n (gridF ps (12 * (x7 + 1))) ps ((x7 + 1 : Nat) : Int)) r) (d : Nat) :
    ∀ s : Nat, s + d = 12 → Ev (fun k => spec_RootPlaces.l1 k n (gridF ps (12 * x7 + s)) ps (x7 : Int) (s : Int)) r := by
  have e7 : wrap64 ((x7 : Int) + 1) = ((x7 + 1 : Nat) : Int) := by rw [wrap_ok (by omega)]; omega
  induction d with
  | zero =>
    intro s hs
    have hs : s = 12 := by omega
    subst hs
    refine Ev.next ?_
    simp only [spec_RootPlaces.l1, e7]
    clear e7
    refine Ev.neg (by omega) ?_
    rw [Nat.mul_add, Nat.mul_one] at K
    exact K
  | succ d ih =>
    intro s hs
    have hih := ih (s + 1) (by omega)
    have hlen := gridF_len ps (12 * x7 + s)
    rw [← Nat.add_assoc, gridF_succ, gr_mk x7 s (by omega)] at hih
    have h := pl_l2 n ps hl hF (gridF ps (12 * x7 + s)) (by omega) x7 s (by omega) (hit ps ⟨(x7 : Int), (s : Int)⟩) hih ps.length 0 false (Nat.zero_add _) (by rw [Bool.false_or]; rfl)
    refine Ev.next ?_
    simp only [spec_RootPlaces.l1]
    exact Ev.pos (by omega) h
theorem pl_l0 (n : Nat) (hn : n ≤ 4) (ps : List S29) (hl : ps.length ≤ 12) (hF : ∀ p ∈ ps, p.f2.length ≤ 1048576) (d : Nat) : ∀ x7 : Nat, x7 + d = n → Ev (fun k => spec_RootPlaces.l0 k (n : Int) (gridF ps (12 * x7)) ps (x7 : Int)) (gridF ps (12 * n)) := by
  induction d with
  | zero =>
    intro x hx
    have hx : x = n := by omega
    subst hx
    refine Ev.next ?_
    simp only [spec_RootPlaces.l0]
    exact Ev.neg (by omega) (Ev.ret rfl)
  | succ d ih =>
    intro x hx
    have h := pl_l1 (n : Int) ps hl hF x (by omega) (ih (x + 1) (by omega)) 12 0 rfl
    refine Ev.next ?_
    simp only [spec_RootPlaces.l0]
    exact Ev.pos (by omega) h
theorem specPlaces_ev (n tx : Int) (vs : List S65) (hF : FitM vs) : Ev (fun k => spec_RootPlaces.f k n tx vs) (rootPl n tx vs) := by
  unfold spec_RootPlaces.f
  refine Ev.take rfl (Ev.bind (specRoot_ev n tx vs hF) ?_)
  rw [← rootB_eq]
  by_cases h : rootB n tx vs = true
  · refine Ev.pos h ?_
    have hr := rootPl_grid n tx vs h
    have hb := h
    unfold rootB at hb
    simp only [Bool.and_eq_true, decide_eq_true_iff] at hb
    have hg := vols_good hb.2.2.2.1
    have hp := ptrs_take_len hg.2.1 vs.length (Nat.le_refl _)
    rw [List.take_length] at hp
    have hlen := hg.1
    refine Ev.bind (all_ev tx vs hg.1 hg.2.1) ?_
    obtain ⟨m, rfl⟩ := Int.eq_ofNat_of_zero_le (show 0 ≤ n by omega)
    rw [hr, show (12 * (m : Int)).toNat = 12 * m by omega]
    exact pl_l0 m (by omega) (ptrs vs) (by omega) (fun p hp => by
      obtain ⟨x, hx, h⟩ := List.mem_flatMap.1 hp
      exact hF.places x hx p h) m 0 (Nat.zero_add _)
  · refine Ev.neg h (Ev.ret ?_)
    unfold rootPl
    rw [if_neg h]
end Go.Proofs.Ytkoimmeghdbodaa.Pure
namespace Go.Proofs.Ytkoimmeghdbodaa.Print
open Go.RowKit Go.Proofs.YtkoimmeghdbodaaW.PrintWords Go.Proofs.YtkoimmeghdbodaaW.PrintLast Go.Proofs.YtkoimmeghdbodaaW.PrintMore
attribute [local go_sem] max2_int min2_int max_two min_two max_three min_three max_four min_four   -- for this text's walks alone
set_option linter.unusedVariables false
set_option linter.unusedSimpArgs false
def laws_markPlaceS.l0 : Nat → List (S37) → Int → Int → Option (Int × (List (S37)))
 | 0, _, _, _ => none
 | k + 1, x0, x1, x5 => if x5 < (x0.length : Int) then (if 0 ≤ x5 then ((some (x0.set (x5 : Int).toNat (⟨x1, (rd_T37 x0 x5).f1⟩ : S37) : List (S37))).bind fun y363 => (laws_markPlaceS.l0 k (y363.set (x5 : Int).toNat (⟨(rd_T37 y363 x5).f0, wrap64 (x1 + 1)⟩ : S37)) (wrap64 ((wrap64 (x1 + 1)) + 1)) (wrap64 (x5 + 1)))) else (none)) else (some (x1, x0))
def laws_markPlaceS.f (k : Nat) (l0 : List (S37)) (a1 : Int) : Option (Int × (List (S37))) := laws_markPlaceS.l0 k l0 a1 0
set_option maxHeartbeats 8000000 in
set_option maxRecDepth 100000 in
theorem laws_markPlaceS.calls (k : Nat) (P0_ : Nat → Prop) (u9000_ : Value) (l0 : List (S37)) (a1 : Int) (r1 : Int) (r2 : List (S37)) (w0 w : World) (hB : Below w0.heap.size w0 w) (ho0 : Kd.R k37 37 w w0.heap.size P0_ u9000_ l0) (h : laws_markPlaceS.f k l0 a1 = some (r1, r2)) :
  Calls Try.prog 32 #[u9000_, .int .i64 a1] w fun e w' => e = .returned (.int .i64 r1) ∧ Kd.R k37 37 w' w0.heap.size (fun k_ => (P0_ k_ ∨ w.heap.size ≤ k_)) u9000_ r2 ∧ Below w0.heap.size w0 w' ∧ Kept w w' (fun k_ => P0_ k_) := by
 have HO0 := Az.mk (show Kd.R k37 37 w w0.heap.size (fun k_ => (P0_ k_ ∨ w.heap.size ≤ k_)) u9000_ l0 from Kd.R_mono ho0 (fun k_ hk => (.inl hk)))
 have HK := Az.mk (Kept.refl w (fun k_ => P0_ k_))
 have HW0 := Az.mk hB.size
 have HB := Az.mk hB
 clear hB
 have H : (laws_markPlaceS.l0 k l0 a1 0) = some (r1, r2) := h
 clear h
 have H' := Az.mk H
 clear H
 go_enter Try.func32, Try.ntmps32
 go_wp2
 go_loopg [1, 5] k (fun kq v1 v5 w' => ∃ (x0_1 : List (S37)) (x1_1 : Int) (x5_1 : Int), v1 = .int .i64 x1_1 ∧ v5 = .int .i64 x5_1 ∧ Az (laws_markPlaceS.l0 kq x0_1 x1_1 x5_1 = some (r1, r2)) ∧ Az (kq ≤ k) ∧ Az (Kd.R k37 37 w' w0.heap.size (fun k_ => (P0_ k_ ∨ w.heap.size ≤ k_)) u9000_ x0_1) ∧ Az (Kept w w' (fun k_ => P0_ k_)) ∧ Az (Below w0.heap.size w0 w'))
 case atStart => exact ⟨(l0), (a1), (0), (by first | rfl | (simp; done) | (simp [*]; done)), (by first | rfl | (simp; done) | (simp [*]; done)), H', ⟨Nat.le_refl _⟩, ⟨by (with_reducible repeat (first | apply Kd.R_alloc | apply Kd.R_drewN | apply Kd.R_drew)); exact HO0.out⟩, ⟨by repeat (first | (with_reducible first | exact HK.out | apply Kept.alloc | apply Kept.drewN | apply Kept.drew) | exact HK.out)⟩, ⟨by repeat (first | (with_reducible first | exact HB.out | apply zq2 | apply zq1 | apply zqd) | exact HB.out)⟩⟩
 case round =>
  clear H'
  try clear p2
  obtain ⟨x0_1, x1_1, x5_1, rfl, rfl, HA, HK1, HO_0, HK, HB⟩ := hrel
  cases gk with
  | zero => exact absurd HA.out (by simp [laws_markPlaceS.l0])
  | succ k1 =>
   have H := HA.out
   clear HA
   simp only [laws_markPlaceS.l0] at H
   by_cases c3 : x5_1 < (x0_1.length : Int)
   ·rw [if_pos c3] at H
    have c3b0 : decide (x5_1 < (x0_1.length : Int)) = true := decide_eq_true c3
    clear c3
    by_cases c4 : 0 ≤ x5_1
    ·rw [if_pos c4] at H
     have c4b0 : decide (0 ≤ x5_1) = true := decide_eq_true c4
     clear c4
     obtain ⟨y363, hy363⟩ : ∃ y_ : List (S37), y_ = (x0_1.set (x5_1 : Int).toNat (⟨x1_1, (rd_T37 x0_1 x5_1).f1⟩ : S37)) := ⟨_, rfl⟩
     replace H : (laws_markPlaceS.l0 k1 (y363.set (x5_1 : Int).toNat (⟨(rd_T37 y363 x5_1).f0, wrap64 (x1_1 + 1)⟩ : S37)) (wrap64 ((wrap64 (x1_1 + 1)) + 1)) (wrap64 (x5_1 + 1))) = some (r1, r2) := by first | (rw [hy363]; with_reducible exact H) | (have H2_ := (Option.bind_some _ _).symm.trans H; rw [hy363]; with_reducible exact H2_) | (have H2_ := (Option.bind_some _ _).symm.trans H; with_reducible exact H2_) | with_reducible exact H | (rw [hy363]; exact H) | exact H
     have Ny363 := Az.mk hy363
     clear hy363
     obtain ⟨y364, hy364⟩ : ∃ y_ : List (S37), y_ = (y363.set (x5_1 : Int).toNat (⟨(rd_T37 y363 x5_1).f0, wrap64 (x1_1 + 1)⟩ : S37)) := ⟨_, rfl⟩
     replace H : (laws_markPlaceS.l0 k1 y364 (wrap64 ((wrap64 (x1_1 + 1)) + 1)) (wrap64 (x5_1 + 1))) = some (r1, r2) := by first | (rw [hy364]; with_reducible exact H) | (have H2_ := (Option.bind_some _ _).symm.trans H; rw [hy364]; with_reducible exact H2_) | (have H2_ := (Option.bind_some _ _).symm.trans H; with_reducible exact H2_) | with_reducible exact H | (rw [hy364]; exact H) | exact H
     have Ny364 := Az.mk hy364
     clear hy364
     have H' := Az.mk H
     clear H
     obtain ⟨Ao7, co7, eo7⟩ := Kd.R_slice HO_0.out
     subst eo7
     have p5 : 0 ≤ (x5_1 : Int) := of_decide_eq_true (by first | (with_reducible assumption) | assumption)
     have q5 : (x5_1 : Int) < ((x0_1.length : Int) : Int) := of_decide_eq_true (by first | (with_reducible assumption) | assumption)
     obtain ⟨go5, co5, eo5, gb5, gl5, cl5, HG5⟩ := Kd.R_form HO_0.out (by omega)
     (first | cases eo5 | (injection eo5 with ea_ en_ ec_; (first | subst ea_ | (injection ea_ with ea_; subst ea_)); subst ec_; clear en_))
     have GB5 := Az.mk gb5
     have GG5 := Az.mk HG5
     clear gb5 gl5 HG5
     have HMgo5 := Az.mk (show (P0_ go5 ∨ w.heap.size ≤ go5) from (HO_0.out.1 _ rfl))
     obtain ⟨ce5, hcl5, hM5, hcc5, hfr5⟩ := Kd.R_elem HO_0.out z37 (x5_1 : Int) p5 q5
     obtain rfl := k37_openM hM5
     have hx5_0 : wr.cell? ⟨go5, (x5_1 : Int).toNat * 2, none⟩ = some (.int .i64 ((rd_T37 x0_1 x5_1).f0)) := hcc5 0 _ rfl
     have hx5_1 : wr.cell? ⟨go5, (x5_1 : Int).toNat * 2 + 1, none⟩ = some (.int .i64 ((rd_T37 x0_1 x5_1).f1)) := hcc5 1 _ rfl
     have hf5_0 : wr.frozen? ⟨go5, (x5_1 : Int).toNat * 2, none⟩ = false := hfr5 0
     have hf5_1 : wr.frozen? ⟨go5, (x5_1 : Int).toNat * 2 + 1, none⟩ = false := hfr5 1
     clear hcl5 hcc5 hfr5 hM5
     replace p5 := eq_true p5
     replace q5 := eq_true q5
     have HX8 := Az.mk (show Kd.R k37 37 wr w0.heap.size (fun k_ => (P0_ k_ ∨ w.heap.size ≤ k_)) (.slice (some ⟨go5, 0, none⟩) x0_1.length co7) x0_1 from (by (with_reducible repeat (first | apply Kd.R_alloc | apply Kd.R_drewN | apply Kd.R_drew)); exact HO_0.out))
     obtain ⟨ce8, hcl8, hM8, hcc8, hfr8⟩ := Kd.R_elem HX8.out z37 (x5_1 : Int) (of_decide_eq_true (by first | (with_reducible assumption) | assumption)) (by have h_ : (x5_1 : Int) < ((x0_1.length : Int) : Int) := of_decide_eq_true (by first | (with_reducible assumption) | assumption); first | exact h_ | (have e_ := (Kd.R_reads' HO_0.out).1; omega) | simpa using h_)
     obtain rfl := k37_openM hM8
     have HP8 := Kd.R_seg HX8.out (x5_1 : Int) (of_decide_eq_true (by first | (with_reducible assumption) | assumption)) (by have h_ : (x5_1 : Int) < ((x0_1.length : Int) : Int) := of_decide_eq_true (by first | (with_reducible assumption) | assumption); first | exact h_ | (have e_ := (Kd.R_reads' HO_0.out).1; omega) | simpa using h_) (seg := [.int .i64 x1_1]) (j := 0) hcl8 hcc8 (show 1 ≤ 2 from by decide) (x' := (⟨x1_1, (rd_T37 x0_1 x5_1).f1⟩ : S37)) (k37_mkM _ _ _ (⟨x1_1, (rd_T37 x0_1 x5_1).f1⟩ : S37) ) (fun _ hk => hk)
     have hx8_0 := hcc8 0 _ rfl
     (try simp only [show (k37).sz = 2 from rfl, Nat.mul_one, Nat.add_zero] at hx8_0)
     have hf8_0 := hfr8 0
     (try simp only [show (k37).sz = 2 from rfl, Nat.mul_one, Nat.add_zero] at hf8_0)
     clear hcl8 hcc8 hfr8 hM8
     go_wp2_with (first | ((with_reducible refine gate_store (t := 3) (p := 16) rfl ?_); refine store_event (t := 3) (p := 16) (v := ?vo_w9) (w1 := (wr.setCell ⟨go5, (x5_1 : Int).toNat * 2, none⟩ (.int .i64 x1_1))) ?hg ?ho ?hn ?hr ?_; (case ho => rfl); (case hg => rfl); (case hn => rfl); (case hr => first | (go_simp; done) | (go_simp; rfl)); intro w9 hw; have hg : wr.grownBy w9 (some go5) := (by rw [hw]; exact HP8.2); have hp_ : Kd.R k37 37 w9 w0.heap.size (fun k_ => (P0_ k_ ∨ w.heap.size ≤ k_)) (.slice (some ⟨go5, 0, none⟩) x0_1.length co7) y363 := (by rw [hw, Ny363.out]; exact HP8.1); clear HP8; have n0_ := Az.mk (hp_); have n1_ := Az.mk ((by rw [hw]; exact zq3 (HB.out) GB5.out : Below w0.heap.size w0 w9)); have n2_ := Az.mk (Kept.of_grown (S := (fun k_ => P0_ k_)) hg (by repeat (first | (with_reducible first | exact HK.out | apply Kept.alloc | apply Kept.drewN | apply Kept.drew) | exact HK.out)) (fun k_ e_ => (HO_0.out.1 k_ e_))); clear HO_0; clear HB; clear HK; have HO_0 := n0_; have HB := n1_; have HK := n2_; clear n0_ n1_ n2_; clear hg hw hp_; have p6 : 0 ≤ (x5_1 : Int) := of_decide_eq_true (by first | (with_reducible assumption) | assumption); have q6 : (x5_1 : Int) < ((x0_1.length : Int) : Int) := of_decide_eq_true (by first | (with_reducible assumption) | assumption); obtain ⟨ce6, hcl6, hM6, hcc6, hfr6⟩ := Kd.R_elem HO_0.out z37 (x5_1 : Int) p6 q6; obtain rfl := k37_openM hM6; have hx6_0 : w9.cell? ⟨go5, (x5_1 : Int).toNat * 2, none⟩ = some (.int .i64 ((rd_T37 y363 x5_1).f0)) := hcc6 0 _ rfl; have hx6_1 : w9.cell? ⟨go5, (x5_1 : Int).toNat * 2 + 1, none⟩ = some (.int .i64 ((rd_T37 y363 x5_1).f1)) := hcc6 1 _ rfl; have hf6_0 : w9.frozen? ⟨go5, (x5_1 : Int).toNat * 2, none⟩ = false := hfr6 0; have hf6_1 : w9.frozen? ⟨go5, (x5_1 : Int).toNat * 2 + 1, none⟩ = false := hfr6 1; clear hcl6 hcc6 hfr6 hM6; replace p6 := eq_true p6; replace q6 := eq_true q6; have HX10 := Az.mk (show Kd.R k37 37 w9 w0.heap.size (fun k_ => (P0_ k_ ∨ w.heap.size ≤ k_)) (.slice (some ⟨go5, 0, none⟩) x0_1.length co7) y363 from (by (with_reducible repeat (first | apply Kd.R_alloc | apply Kd.R_drewN | apply Kd.R_drew)); exact HO_0.out)); obtain ⟨ce10, hcl10, hM10, hcc10, hfr10⟩ := Kd.R_elem HX10.out z37 (x5_1 : Int) (of_decide_eq_true (by first | (with_reducible assumption) | assumption)) (by have h_ : (x5_1 : Int) < ((x0_1.length : Int) : Int) := of_decide_eq_true (by first | (with_reducible assumption) | assumption); first | exact h_ | (have e_ := (Kd.R_reads' HO_0.out).1; omega) | simpa using h_); obtain rfl := k37_openM hM10; have HP10 := Kd.R_seg HX10.out (x5_1 : Int) (of_decide_eq_true (by first | (with_reducible assumption) | assumption)) (by have h_ : (x5_1 : Int) < ((x0_1.length : Int) : Int) := of_decide_eq_true (by first | (with_reducible assumption) | assumption); first | exact h_ | (have e_ := (Kd.R_reads' HO_0.out).1; omega) | simpa using h_) (seg := [.int .i64 (wrap64 (x1_1 + 1))]) (j := 1) hcl10 hcc10 (show 2 ≤ 2 from by decide) (x' := (⟨(rd_T37 y363 x5_1).f0, wrap64 (x1_1 + 1)⟩ : S37)) (k37_mkM _ _ _ (⟨(rd_T37 y363 x5_1).f0, wrap64 (x1_1 + 1)⟩ : S37) ) (fun _ hk => hk); have hx10_1 := hcc10 1 _ rfl; (try simp only [show (k37).sz = 2 from rfl, Nat.mul_one, Nat.add_zero] at hx10_1); have hf10_1 := hfr10 1; (try simp only [show (k37).sz = 2 from rfl, Nat.mul_one, Nat.add_zero] at hf10_1); clear hcl10 hcc10 hfr10 hM10) | ((with_reducible refine gate_store (t := 3) (p := 23) rfl ?_); refine store_event (t := 3) (p := 23) (v := ?vo_w11) (w1 := (w9.setCell ⟨go5, (x5_1 : Int).toNat * 2 + 1, none⟩ (.int .i64 (wrap64 (x1_1 + 1))))) ?hg ?ho ?hn ?hr ?_; (case ho => rfl); (case hg => rfl); (case hn => rfl); (case hr => first | (go_simp; done) | (go_simp; rfl)); intro w11 hw; have hg : w9.grownBy w11 (some go5) := (by rw [hw]; exact HP10.2); have hp_ : Kd.R k37 37 w11 w0.heap.size (fun k_ => (P0_ k_ ∨ w.heap.size ≤ k_)) (.slice (some ⟨go5, 0, none⟩) x0_1.length co7) y364 := (by rw [hw, Ny364.out]; exact HP10.1); clear HP10; have n0_ := Az.mk (hp_); have n1_ := Az.mk ((by rw [hw]; exact zq3 (HB.out) GB5.out : Below w0.heap.size w0 w11)); have n2_ := Az.mk (Kept.of_grown (S := (fun k_ => P0_ k_)) hg (by repeat (first | (with_reducible first | exact HK.out | apply Kept.alloc | apply Kept.drewN | apply Kept.drew) | exact HK.out)) (fun k_ e_ => (HO_0.out.1 k_ e_))); clear HO_0; clear HB; clear HK; have HO_0 := n0_; have HB := n1_; have HK := n2_; clear n0_ n1_ n2_; clear hg hw hp_))
     go_roundg k1
     case measure => have := HK1.out; omega
     case rel => exact ⟨(y364), (wrap64 ((wrap64 (x1_1 + 1)) + 1)), (wrap64 (x5_1 + 1)), (by first | rfl | (simp; done) | (simp [*]; done)), (by first | rfl | (simp; done) | (simp [*]; done)), H', ⟨by have := HK1.out; omega⟩, ⟨by (with_reducible repeat (first | apply Kd.R_alloc | apply Kd.R_drewN | apply Kd.R_drew)); exact HO_0.out⟩, ⟨by repeat (first | (with_reducible first | exact HK.out | apply Kept.alloc | apply Kept.drewN | apply Kept.drew) | exact HK.out)⟩, ⟨by repeat (first | (with_reducible first | exact HB.out | apply zq2 | apply zq1 | apply zqd) | exact HB.out)⟩⟩
    ·rw [if_neg c4] at H
     exact absurd H (by simp)
   ·rw [if_neg c3] at H
    have c3b0 : decide (x5_1 < (x0_1.length : Int)) = false := decide_eq_false c3
    clear c3
    simp only [Option.some.injEq, Prod.mk.injEq] at H
    obtain ⟨rfl, rfl⟩ := H
    obtain ⟨Ao12, co12, eo12⟩ := Kd.R_slice HO_0.out
    subst eo12
    go_wp2
    go_ret
    exact ⟨by first | rfl | (simp [errW_none, errW_some] <;> rfl) | (simp [*, errW_none, errW_some] <;> rfl), by (with_reducible repeat (first | apply Kd.R_alloc | apply Kd.R_drewN | apply Kd.R_drew)); exact HO_0.out, by repeat (first | (with_reducible first | exact HB.out | apply zq2 | apply zq1 | apply zqd) | exact HB.out), by repeat (first | (with_reducible first | exact HK.out | apply Kept.alloc | apply Kept.drewN | apply Kept.drew) | exact HK.out)⟩
end Go.Proofs.Ytkoimmeghdbodaa.Print
namespace Go.Proofs.Ytkoimmeghdbodaa.Print
open Go.RowKit Go.Proofs.YtkoimmeghdbodaaW.PrintWords Go.Proofs.YtkoimmeghdbodaaW.PrintLast Go.Proofs.YtkoimmeghdbodaaW.PrintMore
attribute [local go_sem] max2_int min2_int max_two min_two max_three min_three max_four min_four   -- for this text's walks alone
set_option linter.unusedVariables false
set_option linter.unusedSimpArgs false
def laws_heldPlaceS.l0 : Nat → List (S37) → Int → Int → Option (Int)
 | 0, _, _, _ => none
 | k + 1, x0, x1, x5 => if x5 < (x0.length : Int) then (if 0 ≤ x5 then (if ((rd_T37 x0 x5).f0) = x1 then (if ((rd_T37 x0 x5).f1) = (wrap64 (x1 + 1)) then (laws_heldPlaceS.l0 k x0 (wrap64 ((wrap64 (x1 + 1)) + 1)) (wrap64 (x5 + 1))) else (some (-1))) else (some (-1))) else (none)) else (some x1)
def laws_heldPlaceS.f (k : Nat) (l0 : List (S37)) (a1 : Int) : Option (Int) := laws_heldPlaceS.l0 k l0 a1 0
set_option maxHeartbeats 8000000 in
set_option maxRecDepth 100000 in
theorem laws_heldPlaceS.calls (k : Nat) (A0 : Option Addr) (c0 : Nat) (l0 : List (S37)) (a1 : Int) (r : Int) (w : World) (hr0 : Kd.C k37 w A0 l0.length l0) (hc0 : l0.length ≤ c0) (h : laws_heldPlaceS.f k l0 a1 = some r) :
  Calls Try.prog 46 #[.slice A0 l0.length c0, .int .i64 a1] w fun e w' => e = .returned (.int .i64 r) ∧ Drawn0 w w' := by
 have HR0 := Az.mk hr0
 have HC0 := Az.mk hc0
 clear hr0 hc0
 have H : (laws_heldPlaceS.l0 k l0 a1 0) = some r := h
 clear h
 have H' := Az.mk H
 clear H
 go_enter Try.func46, Try.ntmps46
 go_wp2
 go_loopg [1, 5] k (fun kq v1 v5 w' => ∃ (x1_1 : Int) (x5_1 : Int), v1 = .int .i64 x1_1 ∧ v5 = .int .i64 x5_1 ∧ Az (laws_heldPlaceS.l0 kq l0 x1_1 x5_1 = some r) ∧ Az (kq ≤ k) ∧ Drawn0 w w')
 case atStart => exact ⟨(a1), (0), (by first | rfl | (simp; done) | (simp [*]; done)), (by first | rfl | (simp; done) | (simp [*]; done)), H', ⟨Nat.le_refl _⟩, by repeat (first | exact Drawn0.refl _ | apply Drawn0.step)⟩
 case round =>
  clear H'
  try clear p2
  obtain ⟨x1_1, x5_1, rfl, rfl, HA, HK1, ⟨m1, rfl⟩⟩ := hrel
  cases gk with
  | zero => exact absurd HA.out (by simp [laws_heldPlaceS.l0])
  | succ k1 =>
   have H := HA.out
   clear HA
   simp only [laws_heldPlaceS.l0] at H
   by_cases c3 : x5_1 < (l0.length : Int)
   ·rw [if_pos c3] at H
    have c3b0 : decide (x5_1 < (l0.length : Int)) = true := decide_eq_true c3
    clear c3
    by_cases c4 : 0 ≤ x5_1
    ·rw [if_pos c4] at H
     have c4b0 : decide (0 ≤ x5_1) = true := decide_eq_true c4
     clear c4
     by_cases c5 : ((rd_T37 l0 x5_1).f0) = x1_1
     ·rw [if_pos c5] at H
      have c5b0 : (((rd_T37 l0 x5_1).f0) == x1_1) = true := beq_iff_eq.mpr c5
      have c5b1 : (((rd_T37 l0 x5_1).f0) != x1_1) = false := bne_eq_false_iff_eq.mpr c5
      clear c5
      by_cases c6 : ((rd_T37 l0 x5_1).f1) = (wrap64 (x1_1 + 1))
      ·rw [if_pos c6] at H
       have c6b0 : (((rd_T37 l0 x5_1).f1) == (wrap64 (x1_1 + 1))) = true := beq_iff_eq.mpr c6
       have c6b1 : (((rd_T37 l0 x5_1).f1) != (wrap64 (x1_1 + 1))) = false := bne_eq_false_iff_eq.mpr c6
       clear c6
       have H' := Az.mk H
       clear H
       have p368 : 0 ≤ (x5_1 : Int) := of_decide_eq_true (by first | (with_reducible assumption) | assumption)
       have q368 : x5_1 < (l0.length : Int) := of_decide_eq_true (by first | (with_reducible assumption) | assumption)
       obtain ⟨ad368, e368, hx368_0, hx368_1⟩ := at_T37 HR0.out x5_1 p368 q368
       cases e368
       replace p368 := eq_true p368
       replace q368 := eq_true q368
       have p369 : 0 ≤ (x5_1 : Int) := of_decide_eq_true (by first | (with_reducible assumption) | assumption)
       have q369 : x5_1 < (l0.length : Int) := of_decide_eq_true (by first | (with_reducible assumption) | assumption)
       obtain ⟨ad369, e369, hx369_0, hx369_1⟩ := at_T37 HR0.out x5_1 p369 q369
       obtain rfl : ad368 = ad369 := (by injection e369)
       replace p369 := eq_true p369
       replace q369 := eq_true q369
       go_wp2
       go_roundg k1
       case measure => have := HK1.out; omega
       case rel => exact ⟨(wrap64 ((wrap64 (x1_1 + 1)) + 1)), (wrap64 (x5_1 + 1)), (by first | rfl | (simp; done) | (simp [*]; done)), (by first | rfl | (simp; done) | (simp [*]; done)), H', ⟨by have := HK1.out; omega⟩, by repeat (first | exact Drawn0.refl _ | apply Drawn0.step)⟩
      ·rw [if_neg c6] at H
       have c6b0 : (((rd_T37 l0 x5_1).f1) == (wrap64 (x1_1 + 1))) = false := beq_eq_false_iff_ne.mpr c6
       have c6b1 : (((rd_T37 l0 x5_1).f1) != (wrap64 (x1_1 + 1))) = true := bne_iff_ne.mpr c6
       obtain rfl := Option.some.inj H
       have p368 : 0 ≤ (x5_1 : Int) := of_decide_eq_true (by first | (with_reducible assumption) | assumption)
       have q368 : x5_1 < (l0.length : Int) := of_decide_eq_true (by first | (with_reducible assumption) | assumption)
       obtain ⟨ad368, e368, hx368_0, hx368_1⟩ := at_T37 HR0.out x5_1 p368 q368
       cases e368
       replace p368 := eq_true p368
       replace q368 := eq_true q368
       have p369 : 0 ≤ (x5_1 : Int) := of_decide_eq_true (by first | (with_reducible assumption) | assumption)
       have q369 : x5_1 < (l0.length : Int) := of_decide_eq_true (by first | (with_reducible assumption) | assumption)
       obtain ⟨ad369, e369, hx369_0, hx369_1⟩ := at_T37 HR0.out x5_1 p369 q369
       obtain rfl : ad368 = ad369 := (by injection e369)
       replace p369 := eq_true p369
       replace q369 := eq_true q369
       go_wp2
       go_ret
       exact ⟨by first | rfl | (simp; done) | (simp [*]; done), by repeat (first | exact Drawn0.refl _ | apply Drawn0.step)⟩
     ·rw [if_neg c5] at H
      have c5b0 : (((rd_T37 l0 x5_1).f0) == x1_1) = false := beq_eq_false_iff_ne.mpr c5
      have c5b1 : (((rd_T37 l0 x5_1).f0) != x1_1) = true := bne_iff_ne.mpr c5
      obtain rfl := Option.some.inj H
      have p368 : 0 ≤ (x5_1 : Int) := of_decide_eq_true (by first | (with_reducible assumption) | assumption)
      have q368 : x5_1 < (l0.length : Int) := of_decide_eq_true (by first | (with_reducible assumption) | assumption)
      obtain ⟨ad368, e368, hx368_0, hx368_1⟩ := at_T37 HR0.out x5_1 p368 q368
      cases e368
      replace p368 := eq_true p368
      replace q368 := eq_true q368
      go_wp2
      go_ret
      exact ⟨by first | rfl | (simp; done) | (simp [*]; done), by repeat (first | exact Drawn0.refl _ | apply Drawn0.step)⟩
    ·rw [if_neg c4] at H
     exact absurd H (by simp)
   ·rw [if_neg c3] at H
    have c3b0 : decide (x5_1 < (l0.length : Int)) = false := decide_eq_false c3
    clear c3
    obtain rfl := Option.some.inj H
    go_wp2
    go_ret
    exact ⟨by first | rfl | (simp; done) | (simp [*]; done), by repeat (first | exact Drawn0.refl _ | apply Drawn0.step)⟩
end Go.Proofs.Ytkoimmeghdbodaa.Print
namespace Go.Proofs.Ytkoimmeghdbodaa.Pure
open Go.RowKit Go.Proofs.Ytkoimmeghdbodaa.Print Go.Proofs.YtkoimmeghdbodaaW.PrintWords
def mkd (l : List S37) (i : Nat) : List S37 := (List.range i).map (fun (j : Nat) => (⟨2 * (j : Int) + 1, 2 * (j : Int) + 2⟩ : S37)) ++ l.drop i
theorem mkd_length (l : List S37) (i : Nat) (h : i ≤ l.length) : (mkd l i).length = l.length := by simp [mkd]; omega
theorem mkd_set (l : List S37) (i : Nat) (h : i < l.length) : (mkd l i).set i (⟨2 * (i : Int) + 1, 2 * (i : Int) + 2⟩ : S37) = mkd l (i + 1) := by
  have hl : ((List.range i).map (fun (j : Nat) => (⟨2 * (j : Int) + 1, 2 * (j : Int) + 2⟩ : S37))).length = i := by simp
  unfold mkd
  rw [List.set_append_right _ _ (by omega), hl, Nat.sub_self, List.drop_eq_getElem_cons h, List.set_cons_zero, List.range_succ]
  simp
theorem mkd_at (l : List S37) (i : Nat) (h : i < l.length) : plAt (mkd l l.length) i = (⟨2 * (i : Int) + 1, 2 * (i : Int) + 2⟩ : S37) := by
  simp [mkd, plAt, List.getD, h]
theorem markPlaceS_l0 (l : List S37) (hl : l.length ≤ 1048576) (d : Nat) : ∀ i : Nat, i + d = l.length →
    Ev (fun k => laws_markPlaceS.l0 k (mkd l i) (2 * (i : Int) + 1) (i : Int)) (2 * (l.length : Int) + 1, mkd l l.length) := by
  induction d with
  | zero =>
    intro i hi
    have hil : i = l.length := by omega
    subst hil
    have hz := mkd_length l l.length (Nat.le_refl _)
    refine Ev.next ?_
    simp only [laws_markPlaceS.l0]
    exact Ev.neg (by omega) (Ev.ret rfl)
  | succ d ih =>
    intro i hi
    have hz := mkd_length l i (by omega)
    have e : wrap64 ((i : Int) + 1) = ((i + 1 : Nat) : Int) := by rw [wrap_ok (by omega)]; omega
    have e1 : wrap64 (2 * (i : Int) + 1 + 1) = 2 * (i : Int) + 2 := by rw [wrap_ok (by omega)]; omega
    have e2 : wrap64 (2 * (i : Int) + 2 + 1) = 2 * ((i + 1 : Nat) : Int) + 1 := by rw [wrap_ok (by omega)]; omega
    have hih := ih (i + 1) (by omega)
    rw [← mkd_set l i (by omega)] at hih
    refine Ev.next ?_
    simp only [laws_markPlaceS.l0, e, e1, e2, rd37_nat, Int.toNat_natCast]
    clear e e1 e2
    refine Ev.pos (by omega) (Ev.pos (by omega) (Ev.take rfl ?_))
    have hat : plAt ((mkd l i).set i (⟨2 * (i : Int) + 1, (plAt (mkd l i) i).f1⟩ : S37)) i = (⟨2 * (i : Int) + 1, (plAt (mkd l i) i).f1⟩ : S37) := by
      unfold plAt
      rw [List.getD, List.getElem?_set_self (by omega)]
      rfl
    rw [hat, List.set_set]
    exact hih
theorem markPlaceS_ev (l : List S37) (hl : l.length ≤ 1048576) : Ev (fun k => laws_markPlaceS.f k l 1) (2 * (l.length : Int) + 1, mkd l l.length) := by
  have h := markPlaceS_l0 l hl l.length 0 (Nat.zero_add _)
  simp only [mkd, List.range_zero, List.map_nil, List.nil_append, List.drop_zero] at h
  exact h
theorem heldPlaceS_l0 (l : List S37) (hl : l.length ≤ 1048576) (d : Nat) : ∀ i : Nat, i + d = l.length →
    Ev (fun k => laws_heldPlaceS.l0 k (mkd l l.length) (2 * (i : Int) + 1) (i : Int)) (2 * (l.length : Int) + 1) := by
  have hz := mkd_length l l.length (Nat.le_refl _)
  induction d with
  | zero =>
    intro i hi
    have hil : i = l.length := by omega
    subst hil
    refine Ev.next ?_
    simp only [laws_heldPlaceS.l0]
    exact Ev.neg (by omega) (Ev.ret rfl)
  | succ d ih =>
    intro i hi
    have e : wrap64 ((i : Int) + 1) = ((i + 1 : Nat) : Int) := by rw [wrap_ok (by omega)]; omega
    have e1 : wrap64 (2 * (i : Int) + 1 + 1) = 2 * (i : Int) + 2 := by rw [wrap_ok (by omega)]; omega
    have e2 : wrap64 (2 * (i : Int) + 2 + 1) = 2 * ((i + 1 : Nat) : Int) + 1 := by rw [wrap_ok (by omega)]; omega
    have hih := ih (i + 1) (by omega)
    refine Ev.next ?_
    simp only [laws_heldPlaceS.l0, e, e1, e2, rd37_nat, mkd_at l i (by omega)]
    clear e e1 e2
    exact Ev.pos (by omega) (Ev.pos (by omega) (Ev.pos trivial (Ev.pos trivial hih)))
theorem heldPlaceS_ev (l : List S37) (hl : l.length ≤ 1048576) : Ev (fun k => laws_heldPlaceS.f k (mkd l l.length) 1) (2 * (l.length : Int) + 1) := by
  have h := heldPlaceS_l0 l hl l.length 0 (Nat.zero_add _)
  exact h
end Go.Proofs.Ytkoimmeghdbodaa.Pure
namespace Go.Proofs.Ytkoimmeghdbodaa.Take
open Go.RowKit Go.Proofs.YtkoimmeghdbodaaW.PrintWords
structure Opens {α : Type} (P : Program) (t : TypeId) (d : Kd α) (Wf : α → Prop) : Prop where
  sz : P.cellsOf t = d.sz
  opens : ∀ (H : Type) (enc : TypeId × Value → H) (w : World) (base : Nat) (spare : Nat → Bool) (held : Bool) (fuel : Nat) (cs : List Value) (x : DataW H × List MemPlace), DataW.trod enc P w base spare held fuel t cs = some x → ∃ y : α, d.K w y cs ∧ Wf y
theorem list_of {α : Type} {p : Nat → α → Prop} (n : Nat) (h : ∀ i, i < n → ∃ y, p i y) : ∃ l : List α, l.length = n ∧ ∀ i y, l[i]? = some y → p i y := by
  induction n with
  | zero => exact ⟨[], rfl, fun i y hy => by simp at hy⟩
  | succ n ih =>
    obtain ⟨l, hl, hp⟩ := ih (fun i hi => h i (by omega))
    obtain ⟨z, hz⟩ := h n (by omega)
    refine ⟨l ++ [z], by simp [hl], fun i y hy => ?_⟩
    by_cases hi : i < l.length
    · rw [List.getElem?_append_left hi] at hy
      exact hp i y hy
    · have hin : i = n := by
        have h1 := (List.getElem?_eq_some_iff.1 hy).1
        simp at h1
        omega
      subst hin
      rw [List.getElem?_append_right (by omega)] at hy
      have : z = y := by simpa [hl] using hy
      rw [← this]
      exact hz
theorem addr_add (a : Addr) (i j : Nat) : (a.add i).add j = a.add (i + j) := by
  unfold Addr.add
  by_cases hi : i = 0 <;> by_cases hj : j = 0 <;> simp [hi, hj, Nat.add_assoc]
section
variable {P : Program} {t e : TypeId}
theorem Opens.int {k : IntKind} (ht : P.underlying t = some (.int k)) (hs : P.cellsOf t = 1) : Opens P t (Kd.int k) (fun x => (Lit.int k x).wf = true) := ⟨hs, by
  intro H enc w base spare held fuel cs x h
  obtain ⟨n, rfl, _, hw⟩ := DataW.trod_int ht h
  exact ⟨n, rfl, hw⟩⟩
theorem Opens.bool (ht : P.underlying t = some .bool) (hs : P.cellsOf t = 1) : Opens P t Kd.bool (fun _ => True) := ⟨hs, by
  intro H enc w base spare held fuel cs x h
  obtain ⟨b, rfl, _⟩ := DataW.trod_bool ht h
  exact ⟨b, rfl, trivial⟩⟩
theorem Opens.string (ht : P.underlying t = some .string) (hs : P.cellsOf t = 1) : Opens P t Kd.string (fun s => s.size ≤ maxLen) := ⟨hs, by
  intro H enc w base spare held fuel cs x h
  obtain ⟨s, rfl, _, hw⟩ := DataW.trod_string ht h
  exact ⟨s, rfl, hw⟩⟩
theorem Opens.slice {α : Type} {d : Kd α} {Wf : α → Prop} (ht : P.underlying t = some (.slice e)) (hs : P.cellsOf t = 1) (he : Opens P e d Wf) :
    Opens P t (Kd.slice e d) (fun l => l.length ≤ maxLen ∧ ∀ x ∈ l, Wf x) := ⟨hs, by
  intro H enc w base spare held fuel cs x h
  rcases DataW.trod_slice ht h with ⟨rfl, _⟩ | ⟨a, len, cap, elems, rest, n, _, rfl, _, _, hl, hm, hlen, hel, _⟩
  · exact ⟨[], ⟨none, 0, rfl, Nat.le_refl _, Kd.C_nil d w⟩, Nat.zero_le _, fun x hx => by simp at hx⟩
  · obtain ⟨l, hll, hp⟩ := list_of (p := fun i y => Wf y ∧ ∃ c, c.length = d.sz ∧ d.K w y c ∧ ∀ j u, c[j]? = some u → w.cell? (a.add (i * d.sz + j)) = some u) len (fun i hi => by
      have h1 := hel i hi
      rw [List.getElem?_eq_getElem (by omega)] at h1
      obtain ⟨cs', h2, h3⟩ := Option.bind_eq_some_iff.1 h1
      obtain ⟨_, h4, h5⟩ := World.cells?_some h2
      obtain ⟨y, hy, hw⟩ := he.opens H enc w base spare held n cs' _ h3
      refine ⟨y, hw, cs', h4.trans he.sz, hy, fun j u hu => ?_⟩
      have hj : j < P.cellsOf e := by
        have := (List.getElem?_eq_some_iff.1 hu).1
        omega
      have h6 := h5 j hj
      rw [addr_add, he.sz] at h6
      rw [h6, hu])
    refine ⟨l, ⟨some a, cap, by rw [hll], by omega, ?_⟩, by omega, fun x hx => ?_⟩
    · refine ⟨rfl, by have : maxLen = 9223372036854775807 := by decide
                      omega, fun _ => ⟨a, rfl, fun j p hj => (hp j p hj).2⟩⟩
    · obtain ⟨i, hi⟩ := List.getElem?_of_mem hx
      exact (hp i x hi).1⟩
structure Tail {α : Type} (P : Program) (fs : Array Field) (i o : Nat) (d : Kd α) (Wf : α → Prop) : Prop where
  opens : ∀ (H : Type) (enc : TypeId × Value → H) (w : World) (base : Nat) (spare : Nat → Bool) (held : Bool) (n : Nat) (cs : List Value) (xs : List (DataW H × List MemPlace)), xs.length = fs.size → cs.length = o + d.sz →
    (∀ (j : Nat) (f : Field), fs[j]? = some f → DataW.trod enc P w base spare held n f.type ((cs.drop f.offset).take (P.cellsOf f.type)) = xs[j]?) → ∃ y : α, d.K w y (cs.drop o) ∧ Wf y
theorem Tail.last {α : Type} {fs : Array Field} {i o : Nat} {d : Kd α} {Wf : α → Prop} (f : Field) (hf : fs[i]? = some f) (ho : f.offset = o) (h : Opens P f.type d Wf) : Tail P fs i o d Wf := ⟨by
  intro H enc w base spare held n cs xs hx hl he
  have h1 := he i f hf
  have hi : i < xs.length := by
    have := (Array.getElem?_eq_some_iff.1 hf).1
    omega
  rw [ho, h.sz, List.take_of_length_le (by rw [List.length_drop]; omega), List.getElem?_eq_getElem hi] at h1
  exact h.opens H enc w base spare held n _ _ h1⟩
theorem Tail.cons {α β : Type} {fs : Array Field} {i o : Nat} {d : Kd α} {d' : Kd β} {Wf : α → Prop} {Wf' : β → Prop} (f : Field) (hf : fs[i]? = some f) (ho : f.offset = o) (h : Opens P f.type d Wf) (k : Tail P fs (i + 1) (o + d.sz) d' Wf') :
    Tail P fs i o (Kd.pair d d') (fun p => Wf p.1 ∧ Wf' p.2) := ⟨by
  intro H enc w base spare held n cs xs hx hl he
  have h1 := he i f hf
  have hi : i < xs.length := by
    have := (Array.getElem?_eq_some_iff.1 hf).1
    omega
  rw [ho, h.sz, List.getElem?_eq_getElem hi] at h1
  obtain ⟨y, hy, hw⟩ := h.opens H enc w base spare held n _ _ h1
  have hl' : cs.length = o + (d.sz + d'.sz) := hl
  obtain ⟨z, hz, hw'⟩ := k.opens H enc w base spare held n cs xs hx (by omega) he
  exact ⟨(y, z), ⟨_, _, by rw [← List.drop_drop]; exact (List.take_append_drop d.sz (cs.drop o)).symm, hy, hz⟩, hw, hw'⟩⟩
theorem Opens.struct {α : Type} {d : Kd α} {Wf : α → Prop} {fs : Array Field} (ht : P.underlying t = some (.struct fs)) (hs : P.cellsOf t = d.sz) (k : Tail P fs 0 0 d Wf) : Opens P t d Wf := ⟨hs, by
  intro H enc w base spare held fuel cs x h
  obtain ⟨xs, n, _, _, hl, hx, he⟩ := DataW.trod_struct ht h
  obtain ⟨y, hy, hw⟩ := k.opens H enc w base spare held n cs xs hx (by omega) he
  exact ⟨y, by simpa using hy, hw⟩⟩
theorem Opens.iso {α β : Type} {d : Kd α} {Wf : α → Prop} (f : β → α) (mk : α → β) (hf : ∀ a, f (mk a) = a) (h : Opens P t d Wf) : Opens P t (Kd.iso d f) (fun y => Wf (f y)) := ⟨h.sz, by
  intro H enc w base spare held fuel cs x hx
  obtain ⟨y, hy, hw⟩ := h.opens H enc w base spare held fuel cs x hx
  exact ⟨mk y, by show d.K w (f (mk y)) cs; rw [hf]; exact hy, by rw [hf]; exact hw⟩⟩
end
end Go.Proofs.Ytkoimmeghdbodaa.Take
namespace Go.Proofs.Ytkoimmeghdbodaa.Take
open Go.RowKit Go.Proofs.Ytkoimmeghdbodaa.Print Go.Proofs.YtkoimmeghdbodaaW.PrintWords
def W3 (x : Int) : Prop := (Lit.int .i64 x).wf = true
theorem o3 : Opens Try.prog 3 (Kd.int .i64) W3 := Opens.int (by kernel_rfl) (by kernel_rfl)
def W9 (x : ByteArray) : Prop := x.size ≤ maxLen
theorem o9 : Opens Try.prog 9 Kd.string W9 := Opens.string (by kernel_rfl) (by kernel_rfl)
def W94 (x : S94) : Prop := W3 x.f0 ∧ W3 x.f1
theorem o94 : Opens Try.prog 94 k94 W94 := Opens.iso _ (fun p => (⟨p.1, p.2⟩ : S94)) (fun _ => rfl) (Opens.struct Try.underlying94 (by kernel_rfl) (Tail.cons _ rfl rfl o3 (Tail.last _ rfl rfl o3)))
def W22 (x : (List S94)) : Prop := x.length ≤ maxLen ∧ ∀ y ∈ x, W94 y
theorem o22 : Opens Try.prog 22 (Kd.slice 94 k94) W22 := Opens.slice Try.underlying22 (by kernel_rfl) o94
def W24 (x : S24) : Prop := W3 x.f0 ∧ W3 x.f1 ∧ W22 x.f2
theorem o24 : Opens Try.prog 24 k24 W24 := Opens.iso _ (fun p => (⟨p.1, p.2.1, p.2.2⟩ : S24)) (fun _ => rfl) (Opens.struct Try.underlying24 (by kernel_rfl) (Tail.cons _ rfl rfl o3 (Tail.cons _ rfl rfl o3 (Tail.last _ rfl rfl o22))))
def W118 (x : (List S24)) : Prop := x.length ≤ maxLen ∧ ∀ y ∈ x, W24 y
theorem o118 : Opens Try.prog 118 (Kd.slice 24 k24) W118 := Opens.slice Try.underlying118 (by kernel_rfl) o24
def W120 (x : S120) : Prop := W9 x.f0 ∧ W118 x.f1
theorem o120 : Opens Try.prog 120 k120 W120 := Opens.iso _ (fun p => (⟨p.1, p.2⟩ : S120)) (fun _ => rfl) (Opens.struct Try.underlying120 (by kernel_rfl) (Tail.cons _ rfl rfl o9 (Tail.last _ rfl rfl o118)))
def W50 (x : (List S120)) : Prop := x.length ≤ maxLen ∧ ∀ y ∈ x, W120 y
theorem o50 : Opens Try.prog 50 (Kd.slice 120 k120) W50 := Opens.slice Try.underlying50 (by kernel_rfl) o120
structure S52 where
  f0 : Int
  f1 : (List S120)
def k52 : Kd S52 := Kd.iso (Kd.pair (Kd.int .i64) (Kd.slice 120 k120)) (fun x : S52 => (x.f0, x.f1))
theorem k52_open {w : World} {x : S52} {cs : List Value} (h : k52.K w x cs) : ∃ A1 c1, cs = [.int .i64 x.f0, .slice A1 x.f1.length c1] ∧ x.f1.length ≤ c1 ∧ Kd.C k120 w A1 x.f1.length x.f1 := by
  obtain ⟨_, _, rfl, rfl, ⟨A1, c1, rfl, l1, g1⟩⟩ := h
  exact ⟨A1, c1, rfl, l1, g1⟩
def W52 (x : S52) : Prop := W3 x.f0 ∧ W50 x.f1
theorem o52 : Opens Try.prog 52 k52 W52 := Opens.iso _ (fun p => (⟨p.1, p.2⟩ : S52)) (fun _ => rfl) (Opens.struct Try.underlying52 (by kernel_rfl) (Tail.cons _ rfl rfl o3 (Tail.last _ rfl rfl o50)))
end Go.Proofs.Ytkoimmeghdbodaa.Take
namespace Go.Proofs.Ytkoimmeghdbodaa.Hd
open Go.RowKit Go.Proofs.Ytkoimmeghdbodaa.Print Go.Proofs.YtkoimmeghdbodaaW.PrintWords Go.Proofs.YtkoimmeghdbodaaW.PrintLast Go.Proofs.YtkoimmeghdbodaaW.PrintMore Go.Proofs.Ytkoimmeghdbodaa.Pure
set_option linter.unusedVariables false
set_option linter.unusedSimpArgs false
abbrev AC := Option Addr × Nat
def cR (M : AC) (D : Int × List S65) : Array Value := #[.int .i64 D.1, .slice M.1 D.2.length M.2]
def cA (M : AC) (D : Int × List S120) : Array Value := #[.int .i64 D.1, .slice M.1 D.2.length M.2]
def pV (M : AC) (l : List S37) : Value := .slice M.1 l.length M.2
theorem cR_one (M : AC) (D : Int × List S65) : (cR M D).all (·.oneCell') = true := by simp [cR, Value.oneCell']
theorem size57 : (Try.prog.info? 57).map (·.size) = some 2 := by kernel_rfl
theorem size52 : (Try.prog.info? 52).map (·.size) = some 2 := by kernel_rfl
def OwR (wc : World) (B lo hi : Nat) (M : AC) (D : List S65) : Prop := Kd.R k65 65 wc B (fun k => lo ≤ k ∧ k < hi) (.slice M.1 D.length M.2) D
def OwP (wc : World) (B lo hi : Nat) (M : AC) (l : List S37) : Prop := Kd.R k37 37 wc B (fun k => lo ≤ k ∧ k < hi) (pV M l) l
def RdR (w : World) (M : AC) (D : List S65) : Prop := D.length ≤ M.2 ∧ Kd.C k65 w M.1 D.length D
def RdP (w : World) (M : AC) (l : List S37) : Prop := l.length ≤ M.2 ∧ Kd.C k37 w M.1 l.length l
section
variable {base : Nat} {w0 w wc : World} {L : List Part} {B lo hi : Nat} {M : AC}
theorem Hd.rdR (h : Hd base w0 w L) (i : Nat) (e : L[i]? = some (.same lo hi wc)) {D : List S65} (O : OwR wc B lo hi M D) : RdR w M D := by
  have := Kd.R_reads' (Kd.R_move O (fun k hk => h.same i e k hk.1 hk.2))
  exact ⟨this.2.1, this.2.2⟩
theorem Hd.rdP (h : Hd base w0 w L) (i : Nat) (e : L[i]? = some (.same lo hi wc)) {l : List S37} (O : OwP wc B lo hi M l) : RdP w M l := by
  have := Kd.R_reads' (Kd.R_move O (fun k hk => h.same i e k hk.1 hk.2))
  exact ⟨this.2.1, this.2.2⟩
theorem Hd.owR (h : Hd base w0 w L) (i : Nat) (e : L[i]? = some (.same lo hi wc)) {D : List S65} (O : OwR wc B lo hi M D) : OwR w B lo hi M D := Kd.R_move O (fun k hk => h.same i e k hk.1 hk.2)
theorem Hd.owP (h : Hd base w0 w L) (i : Nat) (e : L[i]? = some (.same lo hi wc)) {l : List S37} (O : OwP wc B lo hi M l) : OwP w B lo hi M l := Kd.R_move O (fun k hk => h.same i e k hk.1 hk.2)
end
theorem owP_of {w w' : World} {B : Nat} (hB : B ≤ w.heap.size) {v : Value} {l : List S37} (h : Kd.R k37 37 w' w.heap.size (fun _ => True) v l) : ∃ M, v = pV M l ∧ OwP w' B w.heap.size w'.heap.size M l := by
  obtain ⟨A, c, rfl⟩ := Kd.R_slice h
  exact ⟨(A, c), rfl, Kd.R_lower (Kd.R_mono (Kd.R_bound h) (fun k hk => ⟨hk.2.1, hk.2.2.1⟩)) hB⟩
theorem owR_of {w w' : World} {B : Nat} (hB : B ≤ w.heap.size) {v : Value} {l : List S65} (h : Kd.R k65 65 w' w.heap.size (fun _ => True) v l) : ∃ M : AC, v = .slice M.1 l.length M.2 ∧ OwR w' B w.heap.size w'.heap.size M l := by
  obtain ⟨A, c, rfl⟩ := Kd.R_slice h
  exact ⟨(A, c), rfl, Kd.R_lower (Kd.R_mono (Kd.R_bound h) (fun k hk => ⟨hk.2.1, hk.2.2.1⟩)) hB⟩
theorem toRoot_call {tx : Int} {l : List S120} (hF : FitR l) {w : World} {M : AC} (hr : Kd.C k120 w M.1 l.length l) (hc : l.length ≤ M.2) {B : Nat} (hB : B ≤ w.heap.size) :
    Calls Try.prog 37 #[.agg (cA M (tx, l))] w fun e w' => ∃ M', e = .returned (.agg (cR M' (tx, l.map voC))) ∧ OwR w' B w.heap.size w'.heap.size M' (l.map voC) ∧ Below w.heap.size w w' := by
  obtain ⟨k, hk⟩ := Ev.rounds (toRoot_ev tx l hF)
  refine (laws_toRoot.calls k tx M.1 M.2 l tx (l.map voC) w hr hc hk).mono ?_
  rintro e w' ⟨v, rfl, hR, hb⟩
  obtain ⟨M', rfl, hO⟩ := owR_of hB hR
  exact ⟨M', rfl, hO, hb⟩
theorem specPl_call (n tx : Int) {D : List S65} (hF : FitM D) {w : World} {M : AC} (h : RdR w M D) {B : Nat} (hB : B ≤ w.heap.size) :
    Calls Try.prog 44 #[.int .i64 n, .agg (cR M (tx, D))] w fun e w' => ∃ M', e = .returned (pV M' (rootPl n tx D)) ∧ OwP w' B w.heap.size w'.heap.size M' (rootPl n tx D) ∧ Below w.heap.size w w' := by
  obtain ⟨k, hk⟩ := Ev.rounds (specPlaces_ev n tx D hF)
  refine (spec_RootPlaces.calls k n tx M.1 M.2 D _ w h.2 h.1 hk).mono ?_
  rintro e w' ⟨v, rfl, hR, hb⟩
  obtain ⟨M', rfl, hO⟩ := owP_of hB hR
  exact ⟨M', rfl, hO, hb⟩
theorem implPl_call (n tx : Int) {D : List S65} (hF : FitM D) {w : World} {M : AC} (h : RdR w M D) {B : Nat} (hB : B ≤ w.heap.size) :
    Calls Try.prog 41 #[.int .i64 n, .agg (cR M (tx, D))] w fun e w' => ∃ M', e = .returned (pV M' (rootPl n tx D)) ∧ OwP w' B w.heap.size w'.heap.size M' (rootPl n tx D) ∧ Below w.heap.size w w' := by
  refine (rootPlaces_call n tx M.1 M.2 D w h.2 h.1 hF.places).mono ?_
  rintro e w' ⟨v, rfl, hR, hb⟩
  obtain ⟨M', rfl, hO⟩ := owP_of hB hR
  exact ⟨M', rfl, hO, hb⟩
theorem eqPl_call {l : List S37} (hl : l.length ≤ 1048576) {w : World} {M M' : AC} (h : RdP w M l) (h' : RdP w M' l) : Calls Try.prog 31 #[pV M l, pV M' l] w fun e w' => e = .returned (.bool true) ∧ Below w.heap.size w w' := by
  obtain ⟨k, hk⟩ := Ev.rounds (eqPlaceS_ev l hl)
  exact laws_eqPlaceS.calls k M.1 M.2 l M'.1 M'.2 l true w h.2 h.1 h'.2 h'.1 hk
theorem eqRoot_call {tx : Int} {D : List S65} (hF : FitM D) {w : World} {M M' : AC} (h : RdR w M D) (h' : RdR w M' D) : Calls Try.prog 39 #[.agg (cR M (tx, D)), .agg (cR M' (tx, D))] w fun e w' => e = .returned (.bool true) ∧ Below w.heap.size w w' := by
  obtain ⟨k, hk⟩ := Ev.rounds (eqRoot_ev tx D hF)
  exact laws_eqRoot.calls k tx M.1 M.2 D tx M'.1 M'.2 D true w h.2 h.1 h'.2 h'.1 hk
theorem heldPl_call {l : List S37} (hl : l.length ≤ 1048576) {w : World} {M : AC} (h : RdP w M (mkd l l.length)) : Calls Try.prog 46 #[pV M l, .int .i64 1] w fun e w' => e = .returned (.int .i64 (2 * (l.length : Int) + 1)) ∧ Below w.heap.size w w' := by
  have hz := mkd_length l l.length (Nat.le_refl _)
  rw [show pV M l = pV M (mkd l l.length) by unfold pV; rw [hz]]
  obtain ⟨k, hk⟩ := Ev.rounds (heldPlaceS_ev l hl)
  exact (laws_heldPlaceS.calls k M.1 M.2 (mkd l l.length) 1 _ w h.2 h.1 hk).mono fun e w' h => ⟨h.1, h.2.below⟩
theorem markPlS_call {l : List S37} (hl : l.length ≤ 1048576) {w0 w : World} (hB : Below w0.heap.size w0 w) {lo hi : Nat} {M : AC} (h : OwP w w0.heap.size lo hi M l) (hhi : hi ≤ w.heap.size) :
    Calls Try.prog 32 #[pV M l, .int .i64 1] w fun e w' => e = .returned (.int .i64 (2 * (l.length : Int) + 1)) ∧ OwP w' w0.heap.size lo hi M (mkd l l.length) ∧ Below w0.heap.size w0 w' ∧ Below w0.heap.size w w' ∧ (∀ k, k < w.heap.size → (k < lo ∨ hi ≤ k) → w'.heap[k]? = w.heap[k]?) := by
  obtain ⟨k, hk⟩ := Ev.rounds (markPlaceS_ev l hl)
  refine (laws_markPlaceS.calls k (fun k => lo ≤ k ∧ k < hi) (pV M l) l 1 _ _ w0 w hB h hk).mono ?_
  rintro e w' ⟨rfl, hR, hb, hkept⟩
  have hz := mkd_length l l.length (Nat.le_refl _)
  have hown : ∀ k, (pV M l).ownBlock = some k → lo ≤ k ∧ k < hi := h.1
  refine ⟨rfl, ?_, hb, ?_, ?_⟩
  · have hR2 := Kd.R_mono (Kd.R_tight (rfl : k37.E = []) hR) (ok' := fun k => lo ≤ k ∧ k < hi) (fun k hk => hown k hk.symm)
    unfold OwP
    rw [show pV M (mkd l l.length) = pV M l by unfold pV; rw [hz]]
    exact hR2
  · exact ⟨hb.os.trans hB.os.symm, hb.tape.trans hB.tape.symm, hb.output.trans hB.output.symm, hkept.1, fun k hk => (hb.block k hk).trans (hB.block k hk).symm⟩
  · exact fun k hk hf => hkept.2 k hk (fun h => by omega)
section
variable {w : World} {B lo hi : Nat} {ok : Nat → Prop} {v : Value}
theorem shPl_of {l : List S37} (h : Kd.R k37 37 w B ok v l) (hok : ∀ k, ok k → lo ≤ k ∧ k < hi) : ShPl w lo hi v l.length := by
  have h0 := h.1
  obtain ⟨_, inner, hown, hr⟩ := h
  rcases hown.2 with ⟨rfl, h1⟩ | ⟨g, cap, cur, rfl, hb, hh, hnc, hcm, hcs, ht⟩
  · exact Or.inl ⟨0, rfl, h1⟩
  · refine Or.inr ⟨g, cap, cur, rfl, hok g (h0 g rfl), hh, ?_⟩
    rw [hcs]
    exact Nat.mul_le_mul_right _ hnc
theorem shPt_of {l : List S29} (h : Kd.R k29 29 w B ok v l) (hok : ∀ k, ok k → lo ≤ k ∧ k < hi) (hl : ∀ x ∈ l, x.f2.length ≤ 1048576) : ShPt w lo hi v l.length := by
  have h0 := h.1
  obtain ⟨_, inner, hown, hr⟩ := h
  rcases hown.2 with ⟨rfl, h1⟩ | ⟨g, cap, cur, rfl, hb, hh, hnc, hcm, hcs, ht⟩
  · exact Or.inl ⟨0, rfl, h1⟩
  · refine Or.inr ⟨g, cap, cur, rfl, hok g (h0 g rfl), hh, by rw [hcs]; exact Nat.mul_le_mul_right _ hnc, fun i hi' => ?_⟩
    obtain ⟨v2, e, hR⟩ := k29_openM (hr.2 i l[i] (List.getElem?_eq_getElem hi'))
    rw [show k29.sz = 3 from rfl] at e
    have h2 : ((inner.drop (i * 3)).take 3)[2]? = some v2 := by rw [e]; rfl
    rw [List.getElem?_take_of_lt (by omega), List.getElem?_drop, ← ht, List.getElem?_take_of_lt (by show _ < l.length * 3; omega)] at h2
    exact ⟨v2, _, by simpa using h2, shPl_of hR (fun k hk => hok k hk.1), hl _ (List.getElem_mem hi')⟩
theorem shVo_of {l : List S65} (h : Kd.R k65 65 w B ok v l) (hok : ∀ k, ok k → lo ≤ k ∧ k < hi) (hF : FitM l) : ShVo w lo hi v l.length := by
  have h0 := h.1
  obtain ⟨_, inner, hown, hr⟩ := h
  rcases hown.2 with ⟨rfl, h1⟩ | ⟨g, cap, cur, rfl, hb, hh, hnc, hcm, hcs, ht⟩
  · exact Or.inl ⟨0, rfl, h1⟩
  · refine Or.inr ⟨g, cap, cur, rfl, hok g (h0 g rfl), hh, by rw [hcs]; exact Nat.mul_le_mul_right _ hnc, fun i hi' => ?_⟩
    obtain ⟨v2, e, hR⟩ := k65_openM (hr.2 i l[i] (List.getElem?_eq_getElem hi'))
    rw [show k65.sz = 2 from rfl] at e
    have h2 : ((inner.drop (i * 2)).take 2)[1]? = some v2 := by rw [e]; rfl
    rw [List.getElem?_take_of_lt (by omega), List.getElem?_drop, ← ht, List.getElem?_take_of_lt (by show _ < l.length * 2; omega)] at h2
    exact ⟨v2, _, by simpa using h2, shPt_of hR (fun k hk => hok k hk.1) (hF.places _ (List.getElem_mem hi')), hF.ptrs _ (List.getElem_mem hi')⟩
end
theorem markR_call {tx : Int} {D : List S65} (hF : FitM D) {w0 w : World} (hB : Below w0.heap.size w0 w) {lo hi : Nat} {M : AC} (hlo : w0.heap.size ≤ lo) (h : OwR w w0.heap.size lo hi M D) (k0 : Int) (hk : 0 ≤ k0 ∧ k0 ≤ 4000000000000000000) :
    Calls Try.prog 45 #[.agg (cR M (tx, D)), .int .i64 k0] w fun e w' => ∃ k' : Int, e = .returned (.int .i64 k') ∧ (0 ≤ k' ∧ k' ≤ k0 + 2305845208238948352) ∧ Below w0.heap.size w w' ∧ (∀ k, k < w.heap.size → (k < lo ∨ hi ≤ k) → w'.heap[k]? = w.heap[k]?) := by
  refine (markRoot_call lo hi tx (.slice M.1 D.length M.2) D.length k0 w (shVo_of h (fun k hk => hk) hF) hF.len hk).mono ?_
  rintro e w' ⟨k', rfl, h1, h2, hm⟩
  have := hF.len
  exact ⟨k', rfl, ⟨by omega, by omega⟩, ⟨hm.os, hm.tape, hm.output, hm.size, fun k hk => hm.far k (by have := hB.size; omega) (by omega)⟩, fun k hk hf => hm.far k hk hf⟩
theorem rootPl_len (n tx : Int) (vs : List S65) : (rootPl n tx vs).length ≤ 1048576 := by
  by_cases h : rootB n tx vs = true
  · rw [rootPl_grid n tx vs h]
    have := gridF_len (ptrs vs) (12 * n).toNat
    unfold rootB at h
    simp only [Bool.and_eq_true, decide_eq_true_iff] at h
    omega
  · unfold rootPl
    rw [if_neg h]
    simp
end Go.Proofs.Ytkoimmeghdbodaa.Hd
