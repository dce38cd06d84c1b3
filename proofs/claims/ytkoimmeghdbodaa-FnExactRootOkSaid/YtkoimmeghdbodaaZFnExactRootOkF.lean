/- Proved, with what follows on it: the row of the law FnExactRootOk. Conditions: the row's alone. Texts of this session and words that the kit's print laid for this seat, merged and cut by shrink.py, a program of this session. -/
import Derived.Below
import Derived.ChangeOld
import Derived.OpenShut
import Derived.ProofKit
import Derived.ShutString
import Derived.SizedLaws
import Derived.WalkKit
import Derived.Test.YtkoimmeghdbodaaRows
import Derived.Test.YtkoimmeghdbodaaZFnExactRootOkE
namespace Go.Proofs.Ytkoimmeghdbodaa.Print
open Go.RowKit Go.Proofs.YtkoimmeghdbodaaW.PrintWords Go.Proofs.YtkoimmeghdbodaaW.PrintLast Go.Proofs.YtkoimmeghdbodaaW.PrintMore
attribute [local go_sem] max2_int min2_int max_two min_two max_three min_three max_four min_four   -- for this text's walks alone
set_option linter.unusedVariables false
set_option linter.unusedSimpArgs false
def laws_FnExactRootOk.f (k : Nat) (a0 : Int) (a1_0 : Int) (l1_1 : List (S120)) : Option (Bool) := (laws_szRoot.f k a1_0 l1_1 1048576).bind fun t517 => (if t517 < 0 then (some true) else ((laws_toRoot.f k a1_0 l1_1).bind fun bt518 => ((spec_RootOk.f k a0 bt518.1 bt518.2).bind fun t522 => ((laws_toRoot.f k a1_0 l1_1).bind fun bt523 => ((impl_RootOk.f a0 bt523.1 bt523.2).bind fun t528 => (if (t528 != t522) = true then (none) else ((laws_toRoot.f k a1_0 l1_1).bind fun bt529 => ((laws_eqRoot.f k bt523.1 bt523.2 bt529.1 bt529.2).bind fun t533 => (if t533 = true then (some true) else (none))))))))))
set_option maxHeartbeats 8000000 in
set_option maxRecDepth 100000 in
theorem laws_FnExactRootOk.calls (k : Nat) (a0 : Int) (a1_0 : Int) (A1_1 : Option Addr) (c1_1 : Nat) (l1_1 : List (S120)) (r : Bool) (w : World) (hr1_1 : Kd.C k120 w A1_1 l1_1.length l1_1) (hc1_1 : l1_1.length ≤ c1_1) (h : laws_FnExactRootOk.f k a0 a1_0 l1_1 = some r) :
  Calls Try.prog 7 #[.int .i64 a0, .agg #[.int .i64 a1_0, .slice A1_1 l1_1.length c1_1]] w fun e w' => e = .returned (.bool r) ∧ Below w.heap.size w w' := by
 have hu52 := Try.underlying52
 have hu57 := Try.underlying57
 have HR1_1 := Az.mk hr1_1
 have HC1_1 := Az.mk hc1_1
 clear hr1_1 hc1_1
 have HB := Az.mk (Below.refl w.heap.size w)
 have H : ((laws_szRoot.f k a1_0 l1_1 1048576).bind fun t517 => (if t517 < 0 then (some true) else ((laws_toRoot.f k a1_0 l1_1).bind fun bt518 => ((spec_RootOk.f k a0 bt518.1 bt518.2).bind fun t522 => ((laws_toRoot.f k a1_0 l1_1).bind fun bt523 => ((impl_RootOk.f a0 bt523.1 bt523.2).bind fun t528 => (if (t528 != t522) = true then (none) else ((laws_toRoot.f k a1_0 l1_1).bind fun bt529 => ((laws_eqRoot.f k bt523.1 bt523.2 bt529.1 bt529.2).bind fun t533 => (if t533 = true then (some true) else (none))))))))))) = some r := h
 clear h
 replace H := Option.bind_eq_some_iff.mp H
 obtain ⟨t517, A30, H⟩ := H
 replace H : (if t517 < 0 then (some true) else ((laws_toRoot.f k a1_0 l1_1).bind fun bt518 => ((spec_RootOk.f k a0 bt518.1 bt518.2).bind fun t522 => ((laws_toRoot.f k a1_0 l1_1).bind fun bt523 => ((impl_RootOk.f a0 bt523.1 bt523.2).bind fun t528 => (if (t528 != t522) = true then (none) else ((laws_toRoot.f k a1_0 l1_1).bind fun bt529 => ((laws_eqRoot.f k bt523.1 bt523.2 bt529.1 bt529.2).bind fun t533 => (if t533 = true then (some true) else (none)))))))))) = some r := H
 have A3 := Az.mk A30
 clear A30
 by_cases c4 : t517 < 0
 ·rw [if_pos c4] at H
  have c4b0 : decide (t517 < 0) = true := decide_eq_true c4
  clear c4
  obtain rfl := Option.some.inj H
  go_enter Try.func7, Try.ntmps7
  go_wp2_with (first | ((with_reducible refine zqg (N := 3) rfl ?_); refine zqb ?hg (N := 3) ?hd (cs := #[.int .i64 a1_0, .slice A1_1 l1_1.length c1_1]) (t := 52) ?hr ?_; (case hd => rfl); (case hg => rfl); (case hr => first | (go_simp; done) | (go_simp; rfl)); intro gb516 hg w5 hbox hb; have n0_ := Az.mk (below_step (by repeat (first | (with_reducible first | exact HB.out | apply zq2 | apply zq1 | apply zqd) | exact HB.out)) hb); have n1_ := Az.mk (hbox); have n2_ := Az.mk ((by rw [hg]; exact (below_size (by repeat (first | (with_reducible first | exact HB.out | apply zq2 | apply zq1 | apply zqd) | exact HB.out))) : w.heap.size ≤ gb516)); have n3_ := Az.mk ((by rw [hg]; exact (below_size (by repeat (first | (with_reducible first | exact HB.out | apply zq2 | apply zq1 | apply zqd) | exact HB.out))) : w.heap.size ≤ gb516)); clear HB; have HB := n0_; have BK516 := n1_; have GW516 := n2_; have GE516 := n3_; clear n0_ n1_ n2_ n3_; clear hb hbox hg; have hcz6_0 : w5.cell? ⟨gb516, 0, none⟩ = some (.int .i64 a1_0) := (zq4 BK516.out 0).trans rfl; have hcz6_1 : w5.cell? ⟨gb516, 1, none⟩ = some (.slice A1_1 l1_1.length c1_1) := (zq4 BK516.out 1).trans rfl; have hfz6_0 := zq5 BK516.out 0; have hfz6_1 := zq5 BK516.out 1) | ((with_reducible refine gate_callee (f := 35) rfl ?_); refine zq9 (some 11) rfl rfl Try.func35 (by kernel_rfl) rfl #[.agg #[.int .i64 a1_0, .slice A1_1 l1_1.length c1_1], .int .i64 1048576] rfl (by (try simp only [List.map_toArray, List.map_cons, List.map_nil]); first | done | rfl | (simp only [List.length_drop, List.length_take]; rfl)) ?_; (with_reducible refine (laws_szRoot.calls k a1_0 _ _ l1_1 1048576 t517 _ ?side1 ?side2 A3.out).mono ?_); (case side1 => repeat (first | exact (Kd.C_below HR1_1.out HB.out) | (with_reducible refine Kd.C_alloc ?_ _) | (with_reducible refine Kd.C_drewN ?_ _) | (with_reducible refine Kd.C_drew ?_))); (case side2 => exact HC1_1.out); rintro e w7 ⟨rfl, hb⟩; refine ⟨_, rfl, ?_⟩; have n0_ := Az.mk (blk_below (g := gb516) (o := .cells #[.int .i64 a1_0, .slice A1_1 l1_1.length c1_1] 52 (0, 0)) (by (with_reducible repeat (first | refine zq6 ?_ _ | refine zq8 ?_ | refine zq7 ?_ _)); exact BK516.out) hb); have n1_ := Az.mk (below_step (by repeat (first | (with_reducible first | exact HB.out | apply zq2 | apply zq1 | apply zqd | refine zq3 ?_ GE516.out) | exact HB.out)) hb); clear BK516; clear HB; have BK516 := n0_; have HB := n1_; clear n0_ n1_; (try clear hb); (try clear hb2); (try clear hk); (try clear hi)))
  go_ret
  exact ⟨by first | rfl | (simp [errW_none, errW_some] <;> rfl) | (simp [*, errW_none, errW_some] <;> rfl), by repeat (first | (with_reducible first | exact HB.out | apply zq2 | apply zq1 | apply zqd | refine zq3 ?_ GE516.out) | exact HB.out)⟩
 ·rw [if_neg c4] at H
  have c4b0 : decide (t517 < 0) = false := decide_eq_false c4
  clear c4
  replace H := Option.bind_eq_some_iff.mp H
  obtain ⟨⟨t518, t519⟩, A80, H⟩ := H
  replace H : ((spec_RootOk.f k a0 t518 t519).bind fun t522 => ((laws_toRoot.f k a1_0 l1_1).bind fun bt523 => ((impl_RootOk.f a0 bt523.1 bt523.2).bind fun t528 => (if (t528 != t522) = true then (none) else ((laws_toRoot.f k a1_0 l1_1).bind fun bt529 => ((laws_eqRoot.f k bt523.1 bt523.2 bt529.1 bt529.2).bind fun t533 => (if t533 = true then (some true) else (none)))))))) = some r := H
  have A8 := Az.mk A80
  clear A80
  replace H := Option.bind_eq_some_iff.mp H
  obtain ⟨t522, A90, H⟩ := H
  replace H : ((laws_toRoot.f k a1_0 l1_1).bind fun bt523 => ((impl_RootOk.f a0 bt523.1 bt523.2).bind fun t528 => (if (t528 != t522) = true then (none) else ((laws_toRoot.f k a1_0 l1_1).bind fun bt529 => ((laws_eqRoot.f k bt523.1 bt523.2 bt529.1 bt529.2).bind fun t533 => (if t533 = true then (some true) else (none))))))) = some r := H
  have A9 := Az.mk A90
  clear A90
  replace H := Option.bind_eq_some_iff.mp H
  obtain ⟨⟨t523, t524⟩, A100, H⟩ := H
  replace H : ((impl_RootOk.f a0 t523 t524).bind fun t528 => (if (t528 != t522) = true then (none) else ((laws_toRoot.f k a1_0 l1_1).bind fun bt529 => ((laws_eqRoot.f k t523 t524 bt529.1 bt529.2).bind fun t533 => (if t533 = true then (some true) else (none)))))) = some r := H
  have A10 := Az.mk A100
  clear A100
  replace H := Option.bind_eq_some_iff.mp H
  obtain ⟨t528, A110, H⟩ := H
  replace H : (if (t528 != t522) = true then (none) else ((laws_toRoot.f k a1_0 l1_1).bind fun bt529 => ((laws_eqRoot.f k t523 t524 bt529.1 bt529.2).bind fun t533 => (if t533 = true then (some true) else (none))))) = some r := H
  have A11 := Az.mk A110
  clear A110
  by_cases c12 : (t528 != t522) = true
  ·rw [if_pos c12] at H
   exact absurd H (by simp)
  ·rw [if_neg c12] at H
   have c12b0 : (t528 != t522) = false := by simpa using c12
   (try (have c12b1 : decide (t528 = t522) = true := by simpa using c12))
   (try (have c12b2 : (t528 == t522) = true := by simpa using c12))
   clear c12
   replace H := Option.bind_eq_some_iff.mp H
   obtain ⟨⟨t529, t530⟩, A130, H⟩ := H
   replace H : ((laws_eqRoot.f k t523 t524 t529 t530).bind fun t533 => (if t533 = true then (some true) else (none))) = some r := H
   have A13 := Az.mk A130
   clear A130
   replace H := Option.bind_eq_some_iff.mp H
   obtain ⟨t533, A140, H⟩ := H
   replace H : (if t533 = true then (some true) else (none)) = some r := H
   have A14 := Az.mk A140
   clear A140
   by_cases c15 : t533 = true
   ·subst c15
    have H1 : (some true) = some r := by rw [if_pos rfl] at H; exact H
    clear H
    have H := H1
    clear H1
    obtain rfl := Option.some.inj H
    go_enter Try.func7, Try.ntmps7
    try go_wp2_with (first | ((with_reducible refine zqg (N := 3) rfl ?_); refine zqb ?hg (N := 3) ?hd (cs := #[.int .i64 a1_0, .slice A1_1 l1_1.length c1_1]) (t := 52) ?hr ?_; (case hd => rfl); (case hg => rfl); (case hr => first | (go_simp; done) | (go_simp; rfl)); intro gb516 hg w16 hbox hb; have n0_ := Az.mk (below_step (by repeat (first | (with_reducible first | exact HB.out | apply zq2 | apply zq1 | apply zqd) | exact HB.out)) hb); have n1_ := Az.mk (hbox); have n2_ := Az.mk ((by rw [hg]; exact (below_size (by repeat (first | (with_reducible first | exact HB.out | apply zq2 | apply zq1 | apply zqd) | exact HB.out))) : w.heap.size ≤ gb516)); have n3_ := Az.mk ((by rw [hg]; exact (below_size (by repeat (first | (with_reducible first | exact HB.out | apply zq2 | apply zq1 | apply zqd) | exact HB.out))) : w.heap.size ≤ gb516)); clear HB; have HB := n0_; have BK516 := n1_; have GW516 := n2_; have GE516 := n3_; clear n0_ n1_ n2_ n3_; clear hb hbox hg; have hcz17_0 : w16.cell? ⟨gb516, 0, none⟩ = some (.int .i64 a1_0) := (zq4 BK516.out 0).trans rfl; have hcz17_1 : w16.cell? ⟨gb516, 1, none⟩ = some (.slice A1_1 l1_1.length c1_1) := (zq4 BK516.out 1).trans rfl; have hfz17_0 := zq5 BK516.out 0; have hfz17_1 := zq5 BK516.out 1) | ((with_reducible refine gate_callee (f := 35) rfl ?_); refine zq9 (some 11) rfl rfl Try.func35 (by kernel_rfl) rfl #[.agg #[.int .i64 a1_0, .slice A1_1 l1_1.length c1_1], .int .i64 1048576] rfl (by (try simp only [List.map_toArray, List.map_cons, List.map_nil]); first | done | rfl | (simp only [List.length_drop, List.length_take]; rfl)) ?_; (with_reducible refine (laws_szRoot.calls k a1_0 _ _ l1_1 1048576 t517 _ ?side1 ?side2 A3.out).mono ?_); (case side1 => repeat (first | exact (Kd.C_below HR1_1.out HB.out) | (with_reducible refine Kd.C_alloc ?_ _) | (with_reducible refine Kd.C_drewN ?_ _) | (with_reducible refine Kd.C_drew ?_))); (case side2 => exact HC1_1.out); rintro e w18 ⟨rfl, hb⟩; refine ⟨_, rfl, ?_⟩; have n0_ := Az.mk (blk_below (g := gb516) (o := .cells #[.int .i64 a1_0, .slice A1_1 l1_1.length c1_1] 52 (0, 0)) (by (with_reducible repeat (first | refine zq6 ?_ _ | refine zq8 ?_ | refine zq7 ?_ _)); exact BK516.out) hb); have n1_ := Az.mk (below_step (by repeat (first | (with_reducible first | exact HB.out | apply zq2 | apply zq1 | apply zqd | refine zq3 ?_ GE516.out) | exact HB.out)) hb); clear BK516; clear HB; have BK516 := n0_; have HB := n1_; clear n0_ n1_; (try clear hb); (try clear hb2); (try clear hk); (try clear hi); have hcz19_0 : w18.cell? ⟨gb516, 0, none⟩ = some (.int .i64 a1_0) := (zq4 BK516.out 0).trans rfl; have hcz19_1 : w18.cell? ⟨gb516, 1, none⟩ = some (.slice A1_1 l1_1.length c1_1) := (zq4 BK516.out 1).trans rfl; have hfz19_0 := zq5 BK516.out 0; have hfz19_1 := zq5 BK516.out 1) | ((with_reducible refine gate_callee (f := 37) rfl ?_); refine zq9 (some 16) rfl rfl Try.func37 (by kernel_rfl) rfl #[.agg #[.int .i64 a1_0, .slice A1_1 l1_1.length c1_1]] rfl (by (try simp only [List.map_toArray, List.map_cons, List.map_nil]); first | done | rfl | (simp only [List.length_drop, List.length_take]; rfl)) ?_; (with_reducible refine (laws_toRoot.calls k a1_0 _ _ l1_1 t518 t519 _ ?side1 ?side2 A8.out).mono ?_); (case side1 => repeat (first | exact (Kd.C_below HR1_1.out HB.out) | (with_reducible refine Kd.C_alloc ?_ _) | (with_reducible refine Kd.C_drewN ?_ _) | (with_reducible refine Kd.C_drew ?_))); (case side2 => exact HC1_1.out); rintro e w20 ⟨v520, rfl, ho0, hb⟩; refine ⟨_, rfl, ?_⟩; have n0_ := Az.mk (Kd.R_lower ho0 (below_size (by repeat (first | (with_reducible first | exact HB.out | apply zq2 | apply zq1 | apply zqd | refine zq3 ?_ GE516.out) | exact HB.out)))); have n1_ := Az.mk (blk_below (g := gb516) (o := .cells #[.int .i64 a1_0, .slice A1_1 l1_1.length c1_1] 52 (0, 0)) (by (with_reducible repeat (first | refine zq6 ?_ _ | refine zq8 ?_ | refine zq7 ?_ _)); exact BK516.out) hb); have n2_ := Az.mk (below_step (by repeat (first | (with_reducible first | exact HB.out | apply zq2 | apply zq1 | apply zqd | refine zq3 ?_ GE516.out) | exact HB.out)) hb); clear BK516; clear HB; have HO521 := n0_; have BK516 := n1_; have HB := n2_; clear n0_ n1_ n2_; (try clear hb); (try clear hb2); (try clear hk); (try clear hi); (try clear ho0); obtain ⟨Ao21, co21, eo21⟩ := Kd.R_slice HO521.out; subst eo21) | ((with_reducible refine gate_callee (f := 36) rfl ?_); refine zq9 (some 17) rfl rfl Try.func36 (by kernel_rfl) rfl #[.int .i64 a0, .agg #[.int .i64 t518, .slice Ao21 t519.length co21]] rfl (by (try simp only [List.map_toArray, List.map_cons, List.map_nil]); first | done | rfl | (simp only [List.length_drop, List.length_take]; rfl)) ?_; (with_reducible refine (spec_RootOk.calls k a0 t518 _ _ t519 t522 _ ?side1 ?side2 A9.out).mono ?_); (case side1 => repeat (first | exact (Kd.R_reads' HO521.out).2.2 | (with_reducible refine Kd.C_alloc ?_ _) | (with_reducible refine Kd.C_drewN ?_ _) | (with_reducible refine Kd.C_drew ?_))); (case side2 => exact (Kd.R_reads' HO521.out).2.1); rintro e w22 ⟨rfl, hb⟩; refine ⟨_, rfl, ?_⟩; have n0_ := Az.mk (Kd.R_below (by (with_reducible repeat (first | apply Kd.R_alloc | apply Kd.R_drewN | apply Kd.R_drew)); exact HO521.out) hb); have n1_ := Az.mk (blk_below (g := gb516) (o := .cells #[.int .i64 a1_0, .slice A1_1 l1_1.length c1_1] 52 (0, 0)) (by (with_reducible repeat (first | refine zq6 ?_ _ | refine zq8 ?_ | refine zq7 ?_ _)); exact BK516.out) hb); have n2_ := Az.mk (below_step (by repeat (first | (with_reducible first | exact HB.out | apply zq2 | apply zq1 | apply zqd | refine zq3 ?_ GE516.out) | exact HB.out)) hb); clear HO521; clear BK516; clear HB; have HO521 := n0_; have BK516 := n1_; have HB := n2_; clear n0_ n1_ n2_; (try clear hb); (try clear hb2); (try clear hk); (try clear hi); have hcz23_0 : w22.cell? ⟨gb516, 0, none⟩ = some (.int .i64 a1_0) := (zq4 BK516.out 0).trans rfl; have hcz23_1 : w22.cell? ⟨gb516, 1, none⟩ = some (.slice A1_1 l1_1.length c1_1) := (zq4 BK516.out 1).trans rfl; have hfz23_0 := zq5 BK516.out 0; have hfz23_1 := zq5 BK516.out 1) | ((with_reducible refine gate_callee (f := 37) rfl ?_); refine zq9 (some 19) rfl rfl Try.func37 (by kernel_rfl) rfl #[.agg #[.int .i64 a1_0, .slice A1_1 l1_1.length c1_1]] rfl (by (try simp only [List.map_toArray, List.map_cons, List.map_nil]); first | done | rfl | (simp only [List.length_drop, List.length_take]; rfl)) ?_; (with_reducible refine (laws_toRoot.calls k a1_0 _ _ l1_1 t523 t524 _ ?side1 ?side2 A10.out).mono ?_); (case side1 => repeat (first | exact (Kd.C_below HR1_1.out HB.out) | (with_reducible refine Kd.C_alloc ?_ _) | (with_reducible refine Kd.C_drewN ?_ _) | (with_reducible refine Kd.C_drew ?_))); (case side2 => exact HC1_1.out); rintro e w24 ⟨v525, rfl, ho0, hb⟩; refine ⟨_, rfl, ?_⟩; have n0_ := Az.mk (Kd.R_elder' (by (with_reducible repeat (first | apply Kd.R_alloc | apply Kd.R_drewN | apply Kd.R_drew)); exact HO521.out) (Kd.R_base ho0) hb); have n1_ := Az.mk (Kd.R_lower (Kd.R_new' ho0 (Kd.R_lt (by (with_reducible repeat (first | apply Kd.R_alloc | apply Kd.R_drewN | apply Kd.R_drew)); exact HO521.out))) (below_size (by repeat (first | (with_reducible first | exact HB.out | apply zq2 | apply zq1 | apply zqd | refine zq3 ?_ GE516.out) | exact HB.out)))); have n2_ := Az.mk (blk_below (g := gb516) (o := .cells #[.int .i64 a1_0, .slice A1_1 l1_1.length c1_1] 52 (0, 0)) (by (with_reducible repeat (first | refine zq6 ?_ _ | refine zq8 ?_ | refine zq7 ?_ _)); exact BK516.out) hb); have n3_ := Az.mk (below_step (by repeat (first | (with_reducible first | exact HB.out | apply zq2 | apply zq1 | apply zqd | refine zq3 ?_ GE516.out) | exact HB.out)) hb); clear HO521; clear BK516; clear HB; have HO521 := n0_; have HO526 := n1_; have BK516 := n2_; have HB := n3_; clear n0_ n1_ n2_ n3_; (try clear hb); (try clear hb2); (try clear hk); (try clear hi); (try clear ho0)) | ((with_reducible refine zqg (N := 7) rfl ?_); refine zqb ?hg (N := 7) ?hd (cs := #[.int .i64 0, .slice none 0 0]) (t := 57) ?hr ?_; (case hd => rfl); (case hg => rfl); (case hr => first | (go_simp; done) | (go_simp; rfl)); intro gb527 hg w25 hbox hb; have n0_ := Az.mk (Kd.R_below (by (with_reducible repeat (first | apply Kd.R_alloc | apply Kd.R_drewN | apply Kd.R_drew)); exact HO521.out) hb); have n1_ := Az.mk (Kd.R_below (by (with_reducible repeat (first | apply Kd.R_alloc | apply Kd.R_drewN | apply Kd.R_drew)); exact HO526.out) hb); have n2_ := Az.mk (blk_below (g := gb516) (o := .cells #[.int .i64 a1_0, .slice A1_1 l1_1.length c1_1] 52 (0, 0)) (by (with_reducible repeat (first | refine zq6 ?_ _ | refine zq8 ?_ | refine zq7 ?_ _)); exact BK516.out) hb); have n3_ := Az.mk (below_step (by repeat (first | (with_reducible first | exact HB.out | apply zq2 | apply zq1 | apply zqd | refine zq3 ?_ GE516.out) | exact HB.out)) hb); have n4_ := Az.mk (hbox); have n5_ := Az.mk ((by rw [hg]; exact (below_size (by repeat (first | (with_reducible first | exact HB.out | apply zq2 | apply zq1 | apply zqd | refine zq3 ?_ GE516.out) | exact HB.out))) : w.heap.size ≤ gb527)); have n6_ := Az.mk ((by rw [hg]; exact (below_size (by repeat (first | (with_reducible first | exact HB.out | apply zq2 | apply zq1 | apply zqd | refine zq3 ?_ GE516.out) | exact HB.out))) : w.heap.size ≤ gb527)); have n7_ := Az.mk ((by rw [hg]; exact Nat.ne_of_lt (blk_lt (g := gb516) (o := .cells #[.int .i64 a1_0, .slice A1_1 l1_1.length c1_1] 52 (0, 0)) (by (with_reducible repeat (first | refine zq6 ?_ _ | refine zq8 ?_ | refine zq7 ?_ _)); exact BK516.out)) : gb516 ≠ gb527)); have n8_ := Az.mk ((by rw [hg]; exact Nat.ne_of_gt (blk_lt (g := gb516) (o := .cells #[.int .i64 a1_0, .slice A1_1 l1_1.length c1_1] 52 (0, 0)) (by (with_reducible repeat (first | refine zq6 ?_ _ | refine zq8 ?_ | refine zq7 ?_ _)); exact BK516.out)) : gb527 ≠ gb516)); clear HO521; clear HO526; clear BK516; clear HB; have HO521 := n0_; have HO526 := n1_; have BK516 := n2_; have HB := n3_; have BK527 := n4_; have GW527 := n5_; have GE527 := n6_; have NB516_527 := n7_; have NB527_516 := n8_; clear n0_ n1_ n2_ n3_ n4_ n5_ n6_ n7_ n8_; clear hb hbox hg; have hnb26 := NB527_516.out; have hnc26 := NB516_527.out; have hcz27_0 : w25.cell? ⟨gb527, 0, none⟩ = some (.int .i64 0) := (zq4 BK527.out 0).trans rfl; have hcz27_1 : w25.cell? ⟨gb527, 1, none⟩ = some (.slice none 0 0) := (zq4 BK527.out 1).trans rfl; have hfz27_0 := zq5 BK527.out 0; have hfz27_1 := zq5 BK527.out 1; obtain ⟨Ao28, co28, eo28⟩ := Kd.R_slice HO526.out; subst eo28) | ((with_reducible refine gate_callee (f := 38) rfl ?_); refine zq9 (some 22) rfl rfl Try.func38 (by kernel_rfl) rfl #[.int .i64 a0, .agg #[.int .i64 t523, .slice Ao28 t524.length co28]] rfl (by (try simp only [List.map_toArray, List.map_cons, List.map_nil]); first | done | rfl | (simp only [List.length_drop, List.length_take]; rfl)) ?_; (with_reducible refine (impl_RootOk.calls a0 t523 _ _ t524 t528 _ ?side1 ?side2 A11.out).mono ?_); (case side1 => refine (Kd.R_reads' (e := 65) (base := w.heap.size) (ok := fun k_ => (True ∧ some k_ ≠ (.slice Ao21 t519.length co21 : Value).ownBlock)) (n := t524.length) (c := co28) ?_).2.2; exact (by (with_reducible repeat (first | apply Kd.R_alloc | apply Kd.R_drewN | apply Kd.R_drew)); exact (Kd.R_mono (Kd.R_far (p := ⟨gb527, 1, none⟩) (Kd.R_far (p := ⟨gb527, 0, none⟩) (Kd.R_types HO526.out BK527.out (by decide)) (fun _ hk => hk.2) (.int .i64 t523)) (fun _ hk => hk.2) (.slice Ao28 t524.length co28)) (fun _ h_ => h_.1)))); (case side2 => exact (Kd.R_reads' HO526.out).2.1); rintro e w29 ⟨rfl, hb⟩; refine ⟨_, rfl, ?_⟩; have n0_ := Az.mk (Kd.R_below (by (with_reducible repeat (first | apply Kd.R_alloc | apply Kd.R_drewN | apply Kd.R_drew)); exact (Kd.R_mono (Kd.R_far (p := ⟨gb527, 1, none⟩) (Kd.R_far (p := ⟨gb527, 0, none⟩) (Kd.R_types HO521.out BK527.out (by decide)) (fun _ hk => hk.2) (.int .i64 t523)) (fun _ hk => hk.2) (.slice Ao28 t524.length co28)) (fun _ h_ => h_.1))) hb); have n1_ := Az.mk (Kd.R_below (by (with_reducible repeat (first | apply Kd.R_alloc | apply Kd.R_drewN | apply Kd.R_drew)); exact (Kd.R_mono (Kd.R_far (p := ⟨gb527, 1, none⟩) (Kd.R_far (p := ⟨gb527, 0, none⟩) (Kd.R_types HO526.out BK527.out (by decide)) (fun _ hk => hk.2) (.int .i64 t523)) (fun _ hk => hk.2) (.slice Ao28 t524.length co28)) (fun _ h_ => h_.1))) hb); have n2_ := Az.mk (blk_below (g := gb516) (o := .cells #[.int .i64 a1_0, .slice A1_1 l1_1.length c1_1] 52 (0, 0)) (by (with_reducible repeat (first | refine zq6 ?_ _ | refine zq8 ?_ | refine zq7 ?_ _)); refine blk_far ?_ NB516_527.out _; (with_reducible repeat (first | refine zq6 ?_ _ | refine zq8 ?_ | refine zq7 ?_ _)); refine blk_far ?_ NB516_527.out _; (with_reducible repeat (first | refine zq6 ?_ _ | refine zq8 ?_ | refine zq7 ?_ _)); exact BK516.out) hb); have n3_ := Az.mk (blk_below (g := gb527) (o := .cells #[.int .i64 t523, .slice Ao28 t524.length co28] 57 (0, 0)) (by (with_reducible repeat (first | refine zq6 ?_ _ | refine zq8 ?_ | refine zq7 ?_ _)); refine blk_put (cs := #[.int .i64 t523, .slice none 0 0]) ?_ 1 _ rfl; (with_reducible repeat (first | refine zq6 ?_ _ | refine zq8 ?_ | refine zq7 ?_ _)); refine blk_put (cs := #[.int .i64 0, .slice none 0 0]) ?_ 0 _ rfl; (with_reducible repeat (first | refine zq6 ?_ _ | refine zq8 ?_ | refine zq7 ?_ _)); exact BK527.out) hb); have n4_ := Az.mk (below_step (by repeat (first | (with_reducible first | exact HB.out | apply zq2 | apply zq1 | apply zqd | refine zq3 ?_ GE516.out | refine zq3 ?_ GE527.out) | exact HB.out)) hb); clear HO521; clear HO526; clear BK516; clear BK527; clear HB; have HO521 := n0_; have HO526 := n1_; have BK516 := n2_; have BK527 := n3_; have HB := n4_; clear n0_ n1_ n2_ n3_ n4_; (try clear hb); (try clear hb2); (try clear hk); (try clear hi)))
    have n0_ := Az.mk (Kd.R_drew HO521.out)
    have n1_ := Az.mk (Kd.R_drew HO526.out)
    have n2_ := Az.mk (zq8 BK516.out)
    have n3_ := Az.mk (zq8 BK527.out)
    have n4_ := Az.mk (zqd HB.out)
    clear HO521
    clear HO526
    clear BK516
    clear BK527
    clear HB
    have HO521 := n0_
    have HO526 := n1_
    have BK516 := n2_
    have BK527 := n3_
    have HB := n4_
    clear n0_ n1_ n2_ n3_ n4_
    refine start_ (n := 5) (S := fun w' => w'.cell? ⟨gb527, 0, none⟩ = some (.int .i64 t523) ∧ w'.cell? ⟨gb527, 1, none⟩ = some (.slice Ao28 t524.length co28) ∧ w'.cell? ⟨gb516, 0, none⟩ = some (.int .i64 a1_0) ∧ w'.cell? ⟨gb516, 1, none⟩ = some (.slice A1_1 l1_1.length c1_1)) (ds := []) #[false, false, false, false, false] (by kernel_rfl) rfl rfl ⟨(zq4 BK527.out 0).trans rfl, (zq4 BK527.out 1).trans rfl, (zq4 BK516.out 0).trans rfl, (zq4 BK516.out 1).trans rfl⟩ (fun hHeld => ?_)
    generalize w29.drew = w30 at HO521 HO526 BK516 BK527 HB hHeld ⊢
    refine zqt (i := 0) (N := some 26) (v := ?_) (a' := ?_) #[true, false, false, false, false] rfl rfl (by kernel_rfl) (fun _ _ _ h => h) (Or.inl ⟨by rfl, ?_⟩) hHeld ?_ ?_
    rotate_left
    ·rintro w' ⟨s0, s1, s2, s3⟩
     go_simp
     with_reducible rfl
    rotate_left
    ·simp only [Act.put, List.setIfInBounds_toArray, List.set_cons_zero, List.set_cons_succ, i64_w, i32_w]
     rfl
    refine zqt (i := 1) (N := some 27) (v := ?_) (a' := ?_) #[true, true, false, false, false] rfl rfl (by kernel_rfl) (fun _ _ _ h => h) (Or.inl ⟨by rfl, ?_⟩) hHeld ?_ ?_
    rotate_left
    ·rintro w' ⟨s0, s1, s2, s3⟩
     go_simp
     with_reducible rfl
    rotate_left
    ·simp only [Act.put, List.setIfInBounds_toArray, List.set_cons_zero, List.set_cons_succ, i64_w, i32_w]
     rfl
    refine one_ (i := 2) (N := some 28) #[true, true, true, false, false] rfl rfl (by kernel_rfl) (by decide) (fun K hK => ?_)
    refine goes_ Try.func37 (by kernel_rfl) rfl #[.agg #[.int .i64 a1_0, .slice A1_1 l1_1.length c1_1]] (by rfl) rfl rfl (by (try simp only [List.map_toArray, List.map_cons, List.map_nil]); first | done | rfl | (simp only [List.length_drop, List.length_take]; rfl)) ?_
    with_reducible refine (laws_toRoot.calls k a1_0 _ _ l1_1 t529 t530 _ ?side1 ?side2 A13.out).mono ?_
    (case side1 => repeat (first | exact (Kd.C_below HR1_1.out HB.out) | (with_reducible refine Kd.C_alloc ?_ _) | (with_reducible refine Kd.C_drewN ?_ _) | (with_reducible refine Kd.C_drew ?_)))
    (case side2 => exact HC1_1.out)
    rintro e w31 ⟨v531, rfl, ho0, hb⟩
    refine ⟨_, rfl, ?_⟩
    have n0_ := Az.mk (Kd.R_elder' (by (with_reducible repeat (first | apply Kd.R_alloc | apply Kd.R_drewN | apply Kd.R_drew)); exact HO521.out) (Kd.R_base ho0) hb)
    have n1_ := Az.mk (Kd.R_elder' (by (with_reducible repeat (first | apply Kd.R_alloc | apply Kd.R_drewN | apply Kd.R_drew)); exact HO526.out) (Kd.R_base ho0) hb)
    have n2_ := Az.mk (Kd.R_lower (Kd.R_new' (Kd.R_new' ho0 (Kd.R_lt (by (with_reducible repeat (first | apply Kd.R_alloc | apply Kd.R_drewN | apply Kd.R_drew)); exact HO521.out))) (Kd.R_lt (by (with_reducible repeat (first | apply Kd.R_alloc | apply Kd.R_drewN | apply Kd.R_drew)); exact HO526.out))) (below_size (by repeat (first | (with_reducible first | exact HB.out | apply zq2 | apply zq1 | apply zqd | refine zq3 ?_ GE516.out | refine zq3 ?_ GE527.out) | exact HB.out))))
    have n3_ := Az.mk (blk_below (g := gb516) (o := .cells #[.int .i64 a1_0, .slice A1_1 l1_1.length c1_1] 52 (0, 0)) (by (with_reducible repeat (first | refine zq6 ?_ _ | refine zq8 ?_ | refine zq7 ?_ _)); exact BK516.out) hb)
    have n4_ := Az.mk (blk_below (g := gb527) (o := .cells #[.int .i64 t523, .slice Ao28 t524.length co28] 57 (0, 0)) (by (with_reducible repeat (first | refine zq6 ?_ _ | refine zq8 ?_ | refine zq7 ?_ _)); exact BK527.out) hb)
    have n5_ := Az.mk (below_step (by repeat (first | (with_reducible first | exact HB.out | apply zq2 | apply zq1 | apply zqd | refine zq3 ?_ GE516.out | refine zq3 ?_ GE527.out) | exact HB.out)) hb)
    clear HO521
    clear HO526
    clear BK516
    clear BK527
    clear HB
    have HO521 := n0_
    have HO526 := n1_
    have HO532 := n2_
    have BK516 := n3_
    have BK527 := n4_
    have HB := n5_
    clear n0_ n1_ n2_ n3_ n4_ n5_
    (try clear hb)
    (try clear hb2)
    (try clear hk)
    (try clear hi)
    (try clear ho0)
    obtain ⟨Ao32, co32, eo32⟩ := Kd.R_slice HO532.out
    (first | subst eo32 | (injection eo32 with f1_ f2_ f3_; have f4_ := f1_.symm; have f5_ := f3_.symm; clear f1_ f2_ f3_; subst f4_; subst f5_))
    refine hK.out _ _ ⟨(zq4 BK527.out 0).trans rfl, (zq4 BK527.out 1).trans rfl, (zq4 BK516.out 0).trans rfl, (zq4 BK516.out 1).trans rfl⟩ (fun hHeld => ?_)
    clear hK K
    refine norm_ (a' := ?_) ?_ ?_
    rotate_left
    ·show Act.put _ (some 28) _ = _
     simp only [Act.put, List.setIfInBounds_toArray, List.set_cons_zero, List.set_cons_succ, i64_w, i32_w]
     rfl
    refine one_ (i := 3) (N := some 29) #[true, true, true, true, false] rfl rfl (by kernel_rfl) (by decide) (fun K hK => ?_)
    refine goes_ Try.func39 (by kernel_rfl) rfl #[.agg #[.int .i64 t523, .slice Ao28 t524.length co28], .agg #[.int .i64 t529, .slice Ao32 t530.length co32]] (by rfl) rfl rfl (by (try simp only [List.map_toArray, List.map_cons, List.map_nil]); first | done | rfl | (simp only [List.length_drop, List.length_take]; rfl)) ?_
    with_reducible refine (laws_eqRoot.calls k t523 _ _ t524 t529 _ _ t530 true _ ?side1 ?side2 ?side3 ?side4 A14.out).mono ?_
    (case side1 => repeat (first | exact (Kd.R_reads' HO526.out).2.2 | (with_reducible refine Kd.C_alloc ?_ _) | (with_reducible refine Kd.C_drewN ?_ _) | (with_reducible refine Kd.C_drew ?_)))
    (case side2 => exact (Kd.R_reads' HO526.out).2.1)
    (case side3 => repeat (first | exact (Kd.R_reads' HO532.out).2.2 | (with_reducible refine Kd.C_alloc ?_ _) | (with_reducible refine Kd.C_drewN ?_ _) | (with_reducible refine Kd.C_drew ?_)))
    (case side4 => exact (Kd.R_reads' HO532.out).2.1)
    rintro e w33 ⟨rfl, hb⟩
    refine ⟨_, rfl, ?_⟩
    have n0_ := Az.mk (Kd.R_below (by (with_reducible repeat (first | apply Kd.R_alloc | apply Kd.R_drewN | apply Kd.R_drew)); exact HO521.out) hb)
    have n1_ := Az.mk (Kd.R_below (by (with_reducible repeat (first | apply Kd.R_alloc | apply Kd.R_drewN | apply Kd.R_drew)); exact HO526.out) hb)
    have n2_ := Az.mk (Kd.R_below (by (with_reducible repeat (first | apply Kd.R_alloc | apply Kd.R_drewN | apply Kd.R_drew)); exact HO532.out) hb)
    have n3_ := Az.mk (blk_below (g := gb516) (o := .cells #[.int .i64 a1_0, .slice A1_1 l1_1.length c1_1] 52 (0, 0)) (by (with_reducible repeat (first | refine zq6 ?_ _ | refine zq8 ?_ | refine zq7 ?_ _)); exact BK516.out) hb)
    have n4_ := Az.mk (blk_below (g := gb527) (o := .cells #[.int .i64 t523, .slice Ao28 t524.length co28] 57 (0, 0)) (by (with_reducible repeat (first | refine zq6 ?_ _ | refine zq8 ?_ | refine zq7 ?_ _)); exact BK527.out) hb)
    have n5_ := Az.mk (below_step (by repeat (first | (with_reducible first | exact HB.out | apply zq2 | apply zq1 | apply zqd | refine zq3 ?_ GE516.out | refine zq3 ?_ GE527.out) | exact HB.out)) hb)
    clear HO521
    clear HO526
    clear HO532
    clear BK516
    clear BK527
    clear HB
    have HO521 := n0_
    have HO526 := n1_
    have HO532 := n2_
    have BK516 := n3_
    have BK527 := n4_
    have HB := n5_
    clear n0_ n1_ n2_ n3_ n4_ n5_
    (try clear hb)
    (try clear hb2)
    (try clear hk)
    (try clear hi)
    refine hK.out _ _ ⟨(zq4 BK527.out 0).trans rfl, (zq4 BK527.out 1).trans rfl, (zq4 BK516.out 0).trans rfl, (zq4 BK516.out 1).trans rfl⟩ (fun hHeld => ?_)
    clear hK K
    refine norm_ (a' := ?_) ?_ ?_
    rotate_left
    ·show Act.put _ (some 29) _ = _
     simp only [Act.put, List.setIfInBounds_toArray, List.set_cons_zero, List.set_cons_succ, i64_w, i32_w]
     rfl
    refine zqp (i := 4) (N := some 30) (v := ?_) (a' := ?_) #[true, true, true, true, true] rfl rfl (by kernel_rfl) (fun _ _ _ h => h) (Or.inl ⟨by rfl, ?_⟩) ?_ ?_
    rotate_left
    ·intro w'
     go_simp
     with_reducible rfl
    rotate_left
    ·simp only [Act.put, List.setIfInBounds_toArray, List.set_cons_zero, List.set_cons_succ, i64_w, i32_w]
     rfl
    refine done_ (by kernel_rfl) ?_
    try go_wp2
    go_ret
    exact ⟨by first | rfl | (simp [errW_none, errW_some] <;> rfl) | (simp [*, errW_none, errW_some] <;> rfl), by repeat (first | (with_reducible first | exact HB.out | apply zq2 | apply zq1 | apply zqd | refine zq3 ?_ GE516.out | refine zq3 ?_ GE527.out) | exact HB.out)⟩
   ·replace c15 := Bool.eq_false_iff.mpr c15
    subst c15
    have H1 : (none) = some r := by rw [if_neg (show ¬ (false = true) by decide)] at H; exact H
    clear H
    have H := H1
    clear H1
    exact absurd H (by simp)
end Go.Proofs.Ytkoimmeghdbodaa.Print
namespace Go.Proofs.Ytkoimmeghdbodaa.Pure
open Go.RowKit Go.Proofs.Ytkoimmeghdbodaa.Print Go.Proofs.YtkoimmeghdbodaaW.PrintWords
theorem fill_set {α : Type} (l : List α) (z x : α) (i : Nat) (hx : l[i]? = some x) : (l.take i ++ List.replicate (l.length - i) z).set i x = l.take (i + 1) ++ List.replicate (l.length - (i + 1)) z := by
  have hi : i < l.length := (List.getElem?_eq_some_iff.1 hx).1
  have ht : (l.take i).length = i := by rw [List.length_take]; omega
  rw [List.set_append_right _ _ (by omega), ht, Nat.sub_self, show l.length - i = (l.length - (i + 1)) + 1 by omega, List.replicate_succ, List.set_cons_zero, List.take_add_one, hx]
  simp
theorem fill_len {α : Type} (l : List α) (z : α) (i : Nat) (h : i ≤ l.length) : (l.take i ++ List.replicate (l.length - i) z).length = l.length := by
  simp only [List.length_append, List.length_take, List.length_replicate]
  omega
theorem fill_end {α : Type} (l : List α) (z : α) : l.take l.length ++ List.replicate (l.length - l.length) z = l := by simp
def pl (x : S94) : S37 := ⟨x.f0, x.f1⟩
def pls (l : List S94) : List S37 := l.map pl
theorem pls_length (l : List S94) : (pls l).length = l.length := by simp [pls]
theorem pls_some {l : List S94} {i : Nat} (h : i < l.length) : (pls l)[i]? = some (⟨(rd_T94 l (i : Int)).f0, (rd_T94 l (i : Int)).f1⟩ : S37) := by
  simp [pls, pl, rd_T94, List.getD, h]
theorem toPlaceS_l0 (l : List S94) (hl : l.length ≤ 1048576) (d : Nat) : ∀ i : Nat, i + d = l.length →
    Ev (fun k => laws_toPlaceS.l0 k l ((pls l).take i ++ List.replicate ((pls l).length - i) z37) (i : Int)) (pls l) := by
  have hp := pls_length l
  induction d with
  | zero =>
    intro i hi
    refine Ev.next ?_
    simp only [laws_toPlaceS.l0]
    have hil : i = (pls l).length := by omega
    subst hil
    exact Ev.neg (by omega) (Ev.ret (fill_end (pls l) _))
  | succ d ih =>
    intro i hi
    have e : wrap64 ((i : Int) + 1) = ((i + 1 : Nat) : Int) := by rw [wrap_ok (by omega)]; omega
    have hih := ih (i + 1) (by omega)
    have hlen := fill_len (pls l) z37 i (by omega)
    refine Ev.next ?_
    simp only [laws_toPlaceS.l0, e, Int.toNat_natCast]
    clear e
    refine Ev.pos (by omega) (Ev.pos (by omega) (Ev.take rfl (Ev.pos (by omega) ?_)))
    rw [fill_set (pls l) _ _ i (pls_some (by omega))]
    exact hih
theorem toPlaceS_ev (l : List S94) (hl : l.length ≤ 1048576) : Ev (fun k => laws_toPlaceS.f k l) (pls l) := by
  have h := toPlaceS_l0 l hl l.length 0 (Nat.zero_add _)
  simp only [List.take_zero, List.nil_append, Nat.sub_zero, pls_length] at h
  unfold laws_toPlaceS.f
  simp only [Int.toNat_natCast]
  exact Ev.pos (by omega) (Ev.pos (by omega) h)
theorem eqPlaceS_l0 (l : List S37) (hl : l.length ≤ 1048576) (d : Nat) : ∀ i : Nat, i + d = l.length → Ev (fun k => laws_eqPlaceS.l0 k l l (i : Int)) true := by
  induction d with
  | zero =>
    intro i hi
    refine Ev.next ?_
    simp only [laws_eqPlaceS.l0]
    exact Ev.neg (by omega) (Ev.ret rfl)
  | succ d ih =>
    intro i hi
    have e : wrap64 ((i : Int) + 1) = ((i + 1 : Nat) : Int) := by rw [wrap_ok (by omega)]; omega
    have hih := ih (i + 1) (by omega)
    refine Ev.next ?_
    simp only [laws_eqPlaceS.l0, e]
    clear e
    exact Ev.pos (by omega) (Ev.pos (by omega) (Ev.pos (by omega) (Ev.take (a := true) (by simp [laws_eqPlace.f]) (Ev.pos rfl hih))))
theorem eqPlaceS_ev (l : List S37) (hl : l.length ≤ 1048576) : Ev (fun k => laws_eqPlaceS.f k l l) true := by
  unfold laws_eqPlaceS.f
  exact Ev.pos rfl (eqPlaceS_l0 l hl _ 0 (Nat.zero_add _))
theorem eqPtr_ev (s m : Int) (l : List S37) (hl : l.length ≤ 1048576) : Ev (fun k => laws_eqPtr.f k s m l s m l) true := by
  unfold laws_eqPtr.f
  exact Ev.pos rfl (Ev.pos rfl (Ev.bind (eqPlaceS_ev l hl) (Ev.pos rfl (Ev.ret rfl))))
end Go.Proofs.Ytkoimmeghdbodaa.Pure
namespace Go.Proofs.Ytkoimmeghdbodaa.Pure
open Go.RowKit Go.Proofs.Ytkoimmeghdbodaa.Print Go.Proofs.YtkoimmeghdbodaaW.PrintWords Go.Proofs.YtkoimmeghdbodaaW.PrintLast
set_option linter.unusedSimpArgs false
set_option linter.unusedVariables false
theorem rd24n (l : List S24) (k : Nat) : rd_T24 l (k : Int) = l.getD k z24 := by simp [rd_T24]
theorem rd120n (l : List S120) (k : Nat) : rd_T120 l (k : Int) = l.getD k z120 := by simp [rd_T120]
theorem rd29n (l : List S29) (k : Nat) : rd_T29 l (k : Int) = l.getD k z29 := by simp [rd_T29]
theorem getD_some {α : Type} {l : List α} {z : α} {i : Nat} (h : i < l.length) : l[i]? = some (l.getD i z) := by
  rw [List.getD, List.getElem?_eq_getElem h]; rfl
theorem szPlace_ev (l : List S94) (hl : l.length ≤ maxLen) (n : Int) (h0 : 0 ≤ n) (h1 : n ≤ 1048576) : ∃ t : Int, laws_szPlaceS.f l n = some t ∧ t ≤ n ∧ (¬ t < 0 → l.length ≤ 1048576) := by
  have hM : maxLen = 9223372036854775807 := by decide
  have e : wrap64 (n - (l.length : Int)) = n - (l.length : Int) := wrap_ok (by omega)
  unfold laws_szPlaceS.f
  rw [e]
  by_cases h : n - (l.length : Int) < 0
  · exact ⟨-1, by rw [if_pos h], by omega, by omega⟩
  · exact ⟨_, by rw [if_neg h], by omega, by omega⟩
theorem szPtr_ev (x : S24) (hl : x.f2.length ≤ maxLen) (n : Int) (h0 : 0 ≤ n) (h1 : n ≤ 1048576) : ∃ t : Int, laws_szPtr.f x.f0 x.f1 x.f2 n = some t ∧ t ≤ n ∧ (¬ t < 0 → x.f2.length ≤ 1048576) := by
  obtain ⟨t, ht, hle, hb⟩ := szPlace_ev x.f2 hl n h0 h1
  unfold laws_szPtr.f
  rw [ht, Option.bind_some]
  by_cases h : t < 0
  · exact ⟨-1, by rw [if_pos h], by omega, by omega⟩
  · exact ⟨t, by rw [if_neg h], hle, hb⟩
def Wl24 (x : S24) : Prop := x.f2.length ≤ maxLen
def Fit24 (x : S24) : Prop := x.f2.length ≤ 1048576
theorem szPtrS_l0 (l : List S24) (hl : l.length ≤ 1048576) (hs : ∀ x ∈ l, Wl24 x) (d : Nat) : ∀ (i : Nat) (n : Int), i + d = l.length → 0 ≤ n → n ≤ 1048576 →
    ∃ t : Int, Ev (fun k => laws_szPtrS.l0 k l n (i : Int)) t ∧ t ≤ n ∧ (¬ t < 0 → ∀ j : Nat, i ≤ j → j < l.length → Fit24 (l.getD j z24)) := by
  induction d with
  | zero =>
    intro i n hi _ _
    refine ⟨n, Ev.next ?_, Int.le_refl _, fun _ j h1 h2 => by omega⟩
    simp only [laws_szPtrS.l0]
    exact Ev.neg (by omega) (Ev.ret rfl)
  | succ d ih =>
    intro i n hi h0 h1
    have e : wrap64 ((i : Int) + 1) = ((i + 1 : Nat) : Int) := by rw [wrap_ok (by omega)]; omega
    obtain ⟨t, ht, hle, hb⟩ := szPtr_ev (l.getD i z24) (hs _ (getD_mem (by omega))) n h0 h1
    by_cases hneg : t < 0
    · refine ⟨-1, Ev.next ?_, by omega, by omega⟩
      simp only [laws_szPtrS.l0, e, rd24n]
      clear e
      exact Ev.pos (by omega) (Ev.pos (by omega) (Ev.take ht (Ev.pos hneg (Ev.ret rfl))))
    · obtain ⟨u, hu, hle2, hj⟩ := ih (i + 1) t (by omega) (by omega) (by omega)
      refine ⟨u, Ev.next ?_, by omega, fun h j h1 h2 => ?_⟩
      · simp only [laws_szPtrS.l0, e, rd24n]
        clear e
        exact Ev.pos (by omega) (Ev.pos (by omega) (Ev.take ht (Ev.neg hneg hu)))
      · by_cases e : j = i
        · rw [e]; exact hb hneg
        · exact hj h j (by omega) h2
theorem szPtrS_ev (l : List S24) (hl : l.length ≤ maxLen) (hs : ∀ x ∈ l, Wl24 x) (n : Int) (h0 : 0 ≤ n) (h1 : n ≤ 1048576) :
    ∃ t : Int, Ev (fun k => laws_szPtrS.f k l n) t ∧ t ≤ n ∧ (¬ t < 0 → l.length ≤ 1048576 ∧ ∀ x ∈ l, Fit24 x) := by
  have hM : maxLen = 9223372036854775807 := by decide
  have e : wrap64 (n - (l.length : Int)) = n - (l.length : Int) := wrap_ok (by omega)
  unfold laws_szPtrS.f
  simp only [e]
  clear e
  by_cases h : n - (l.length : Int) < 0
  · exact ⟨-1, Ev.pos h (Ev.ret rfl), by omega, by omega⟩
  · obtain ⟨t, ht, hle, hj⟩ := szPtrS_l0 l (by omega) hs l.length 0 (n - (l.length : Int)) (Nat.zero_add _) (by omega) (by omega)
    refine ⟨t, Ev.neg h ht, by omega, fun hn => ⟨by omega, fun x hx => ?_⟩⟩
    obtain ⟨j, hj2, rfl⟩ := List.getElem_of_mem hx
    have := hj hn j (Nat.zero_le _) hj2
    simpa [List.getD, hj2] using this
def Wl120 (x : S120) : Prop := x.f0.size ≤ maxLen ∧ x.f1.length ≤ maxLen ∧ ∀ y ∈ x.f1, Wl24 y
def Fit120 (x : S120) : Prop := x.f1.length ≤ 1048576 ∧ ∀ y ∈ x.f1, Fit24 y
theorem szVol_ev (x : S120) (hx : Wl120 x) (n : Int) (h0 : 0 ≤ n) (h1 : n ≤ 1048576) : ∃ t : Int, Ev (fun k => laws_szVol.f k x.f0 x.f1 n) t ∧ t ≤ n ∧ (¬ t < 0 → Fit120 x) := by
  have hM : maxLen = 9223372036854775807 := by decide
  have hs := hx.1
  have e : wrap64 (n - (x.f0.size : Int)) = n - (x.f0.size : Int) := wrap_ok (by omega)
  unfold laws_szVol.f
  simp only [e]
  clear e
  by_cases h : n - (x.f0.size : Int) < 0
  · exact ⟨-1, Ev.pos h (Ev.ret rfl), by omega, by omega⟩
  · obtain ⟨t, ht, hle, hb⟩ := szPtrS_ev x.f1 hx.2.1 hx.2.2 (n - (x.f0.size : Int)) (by omega) (by omega)
    by_cases hn : t < 0
    · exact ⟨-1, Ev.neg h (Ev.bind ht (Ev.pos hn (Ev.ret rfl))), by omega, by omega⟩
    · exact ⟨t, Ev.neg h (Ev.bind ht (Ev.neg hn (Ev.ret rfl))), by omega, hb⟩
theorem szVolS_l0 (l : List S120) (hl : l.length ≤ 1048576) (hs : ∀ x ∈ l, Wl120 x) (d : Nat) : ∀ (i : Nat) (n : Int), i + d = l.length → 0 ≤ n → n ≤ 1048576 →
    ∃ t : Int, Ev (fun k => laws_szVolS.l0 k l n (i : Int)) t ∧ t ≤ n ∧ (¬ t < 0 → ∀ j : Nat, i ≤ j → j < l.length → Fit120 (l.getD j z120)) := by
  induction d with
  | zero =>
    intro i n hi _ _
    refine ⟨n, Ev.next ?_, Int.le_refl _, fun _ j h1 h2 => by omega⟩
    simp only [laws_szVolS.l0]
    exact Ev.neg (by omega) (Ev.ret rfl)
  | succ d ih =>
    intro i n hi h0 h1
    have e : wrap64 ((i : Int) + 1) = ((i + 1 : Nat) : Int) := by rw [wrap_ok (by omega)]; omega
    obtain ⟨t, ht, hle, hb⟩ := szVol_ev (l.getD i z120) (hs _ (getD_mem (by omega))) n h0 h1
    by_cases hneg : t < 0
    · refine ⟨-1, Ev.next ?_, by omega, by omega⟩
      simp only [laws_szVolS.l0, e, rd120n]
      clear e
      exact Ev.pos (by omega) (Ev.pos (by omega) (Ev.bind ht (Ev.pos hneg (Ev.ret rfl))))
    · obtain ⟨u, hu, hle2, hj⟩ := ih (i + 1) t (by omega) (by omega) (by omega)
      refine ⟨u, Ev.next ?_, by omega, fun h j h1 h2 => ?_⟩
      · simp only [laws_szVolS.l0, e, rd120n]
        clear e
        exact Ev.pos (by omega) (Ev.pos (by omega) (Ev.bind ht (Ev.neg hneg hu)))
      · by_cases e : j = i
        · rw [e]; exact hb hneg
        · exact hj h j (by omega) h2
theorem szVolS_ev (l : List S120) (hl : l.length ≤ maxLen) (hs : ∀ x ∈ l, Wl120 x) (n : Int) (h0 : 0 ≤ n) (h1 : n ≤ 1048576) :
    ∃ t : Int, Ev (fun k => laws_szVolS.f k l n) t ∧ t ≤ n ∧ (¬ t < 0 → l.length ≤ 1048576 ∧ ∀ x ∈ l, Fit120 x) := by
  have hM : maxLen = 9223372036854775807 := by decide
  have e : wrap64 (n - (l.length : Int)) = n - (l.length : Int) := wrap_ok (by omega)
  unfold laws_szVolS.f
  simp only [e]
  clear e
  by_cases h : n - (l.length : Int) < 0
  · exact ⟨-1, Ev.pos h (Ev.ret rfl), by omega, by omega⟩
  · obtain ⟨t, ht, hle, hj⟩ := szVolS_l0 l (by omega) hs l.length 0 (n - (l.length : Int)) (Nat.zero_add _) (by omega) (by omega)
    refine ⟨t, Ev.neg h ht, by omega, fun hn => ⟨by omega, fun x hx => ?_⟩⟩
    obtain ⟨j, hj2, rfl⟩ := List.getElem_of_mem hx
    have := hj hn j (Nat.zero_le _) hj2
    simpa [List.getD, hj2] using this
structure FitR (l : List S120) : Prop where
  len : l.length ≤ 1048576
  vols : ∀ x ∈ l, Fit120 x
theorem szRoot_ev (tx : Int) (l : List S120) (hl : l.length ≤ maxLen) (hs : ∀ x ∈ l, Wl120 x) (n : Int) (h0 : 0 ≤ n) (h1 : n ≤ 1048576) : ∃ t : Int, Ev (fun k => laws_szRoot.f k tx l n) t ∧ t ≤ n ∧ (¬ t < 0 → FitR l) := by
  unfold laws_szRoot.f
  obtain ⟨t, ht, hle, hb⟩ := szVolS_ev l hl hs n h0 h1
  by_cases hn : t < 0
  · exact ⟨-1, Ev.bind ht (Ev.pos hn (Ev.ret rfl)), by omega, by omega⟩
  · exact ⟨t, Ev.bind ht (Ev.neg hn (Ev.ret rfl)), hle, fun h => ⟨(hb h).1, (hb h).2⟩⟩
theorem toPtr_ev (s m : Int) (l : List S94) (hl : l.length ≤ 1048576) : Ev (fun k => laws_toPtr.f k s m l) (s, m, pls l) := by
  unfold laws_toPtr.f
  exact Ev.bind (toPlaceS_ev l hl) (Ev.ret rfl)
def ptC (x : S24) : S29 := ⟨x.f0, x.f1, pls x.f2⟩
def voC (x : S120) : S65 := ⟨x.f0, x.f1.map ptC⟩
theorem map_ptC (l : List S24) (i : Nat) (h : i < l.length) : (l.map ptC).getD i z29 = ptC (l.getD i z24) := by
  simp [List.getD, h]
theorem toPtrS_l0 (l : List S24) (hl : l.length ≤ 1048576) (hF : ∀ x ∈ l, Fit24 x) (d : Nat) : ∀ i : Nat, i + d = l.length →
    Ev (fun k => laws_toPtrS.l0 k l ((l.map ptC).take i ++ List.replicate ((l.map ptC).length - i) z29) (i : Int)) (l.map ptC) := by
  have hlm : (l.map ptC).length = l.length := List.length_map _
  induction d with
  | zero =>
    intro i hi
    refine Ev.next ?_
    simp only [laws_toPtrS.l0]
    have hil : i = (l.map ptC).length := by omega
    subst hil
    exact Ev.neg (by omega) (Ev.ret (fill_end _ _))
  | succ d ih =>
    intro i hi
    have e : wrap64 ((i : Int) + 1) = ((i + 1 : Nat) : Int) := by rw [wrap_ok (by omega)]; omega
    have hih := ih (i + 1) (by omega)
    have hlen := fill_len (l.map ptC) z29 i (by omega)
    have ht := toPtr_ev (l.getD i z24).f0 (l.getD i z24).f1 (l.getD i z24).f2 (hF _ (getD_mem (by omega)))
    have hx : (l.map ptC)[i]? = some (ptC (l.getD i z24)) := by
      rw [getD_some (z := z29) (by omega), map_ptC l i (by omega)]
    refine Ev.next ?_
    simp only [laws_toPtrS.l0, e, rd24n, Int.toNat_natCast]
    clear e
    refine Ev.pos (by omega) (Ev.pos (by omega) (Ev.bind ht (Ev.pos (by omega) ?_)))
    rw [← fill_set (l.map ptC) z29 _ i hx] at hih
    exact hih
theorem toPtrS_ev (l : List S24) (hl : l.length ≤ 1048576) (hF : ∀ x ∈ l, Fit24 x) : Ev (fun k => laws_toPtrS.f k l) (l.map ptC) := by
  have hlm : (l.map ptC).length = l.length := List.length_map _
  have h := toPtrS_l0 l hl hF l.length 0 (Nat.zero_add _)
  rw [hlm] at h
  simp only [List.take_zero, List.nil_append, Nat.sub_zero] at h
  unfold laws_toPtrS.f
  simp only [Int.toNat_natCast]
  exact Ev.pos (by omega) (Ev.pos (by omega) h)
theorem toVol_ev (x : S120) (h : Fit120 x) : Ev (fun k => laws_toVol.f k x.f0 x.f1) (x.f0, x.f1.map ptC) := by
  unfold laws_toVol.f
  exact Ev.bind (toPtrS_ev x.f1 h.1 h.2) (Ev.ret rfl)
theorem map_voC (l : List S120) (i : Nat) (h : i < l.length) : (l.map voC).getD i z65 = voC (l.getD i z120) := by
  simp [List.getD, h]
theorem toVolS_l0 (l : List S120) (hl : l.length ≤ 1048576) (hF : ∀ x ∈ l, Fit120 x) (d : Nat) : ∀ i : Nat, i + d = l.length →
    Ev (fun k => laws_toVolS.l0 k l ((l.map voC).take i ++ List.replicate ((l.map voC).length - i) z65) (i : Int)) (l.map voC) := by
  have hlm : (l.map voC).length = l.length := List.length_map _
  induction d with
  | zero =>
    intro i hi
    refine Ev.next ?_
    simp only [laws_toVolS.l0]
    have hil : i = (l.map voC).length := by omega
    subst hil
    exact Ev.neg (by omega) (Ev.ret (fill_end _ _))
  | succ d ih =>
    intro i hi
    have e : wrap64 ((i : Int) + 1) = ((i + 1 : Nat) : Int) := by rw [wrap_ok (by omega)]; omega
    have hih := ih (i + 1) (by omega)
    have hlen := fill_len (l.map voC) z65 i (by omega)
    have ht := toVol_ev (l.getD i z120) (hF _ (getD_mem (by omega)))
    have hx : (l.map voC)[i]? = some (voC (l.getD i z120)) := by
      rw [getD_some (z := z65) (by omega), map_voC l i (by omega)]
    refine Ev.next ?_
    simp only [laws_toVolS.l0, e, rd120n, Int.toNat_natCast]
    clear e
    refine Ev.pos (by omega) (Ev.pos (by omega) (Ev.bind ht (Ev.pos (by omega) ?_)))
    rw [← fill_set (l.map voC) z65 _ i hx] at hih
    exact hih
theorem toVolS_ev (l : List S120) (hl : l.length ≤ 1048576) (hF : ∀ x ∈ l, Fit120 x) : Ev (fun k => laws_toVolS.f k l) (l.map voC) := by
  have hlm : (l.map voC).length = l.length := List.length_map _
  have h := toVolS_l0 l hl hF l.length 0 (Nat.zero_add _)
  rw [hlm] at h
  simp only [List.take_zero, List.nil_append, Nat.sub_zero] at h
  unfold laws_toVolS.f
  simp only [Int.toNat_natCast]
  exact Ev.pos (by omega) (Ev.pos (by omega) h)
theorem toRoot_ev (tx : Int) (l : List S120) (h : FitR l) : Ev (fun k => laws_toRoot.f k tx l) (tx, l.map voC) := by
  unfold laws_toRoot.f
  exact Ev.bind (toVolS_ev l h.len h.vols) (Ev.ret rfl)
structure FitM (l : List S65) : Prop where
  len : l.length ≤ 1048576
  ptrs : ∀ x ∈ l, x.f1.length ≤ 1048576
  places : ∀ x ∈ l, ∀ y ∈ x.f1, y.f2.length ≤ 1048576
theorem FitR.map {l : List S120} (h : FitR l) : FitM (l.map voC) := by
  refine ⟨by rw [List.length_map]; exact h.len, fun x hx => ?_, fun x hx y hy => ?_⟩
  · obtain ⟨u, hu, rfl⟩ := List.mem_map.1 hx
    simp only [voC, List.length_map]
    exact (h.vols u hu).1
  · obtain ⟨u, hu, rfl⟩ := List.mem_map.1 hx
    obtain ⟨v, hv, rfl⟩ := List.mem_map.1 hy
    simp only [ptC, pls_length]
    exact (h.vols u hu).2 v hv
theorem eqPtrS_l0 (l : List S29) (hl : l.length ≤ 1048576) (hF : ∀ x ∈ l, x.f2.length ≤ 1048576) (d : Nat) : ∀ i : Nat, i + d = l.length → Ev (fun k => laws_eqPtrS.l0 k l l (i : Int)) true := by
  induction d with
  | zero =>
    intro i hi
    refine Ev.next ?_
    simp only [laws_eqPtrS.l0]
    exact Ev.neg (by omega) (Ev.ret rfl)
  | succ d ih =>
    intro i hi
    have e : wrap64 ((i : Int) + 1) = ((i + 1 : Nat) : Int) := by rw [wrap_ok (by omega)]; omega
    have hih := ih (i + 1) (by omega)
    have hx := hF _ (getD_mem (z := z29) (i := i) (l := l) (by omega))
    refine Ev.next ?_
    simp only [laws_eqPtrS.l0, e, rd29n]
    clear e
    exact Ev.pos (by omega) (Ev.pos (by omega) (Ev.pos (by omega) (Ev.bind (eqPtr_ev _ _ _ hx) (Ev.pos rfl hih))))
theorem eqPtrS_ev (l : List S29) (hl : l.length ≤ 1048576) (hF : ∀ x ∈ l, x.f2.length ≤ 1048576) : Ev (fun k => laws_eqPtrS.f k l l) true := by
  unfold laws_eqPtrS.f
  exact Ev.pos rfl (eqPtrS_l0 l hl hF _ 0 (Nat.zero_add _))
theorem eqVol_ev (x : S65) (hl : x.f1.length ≤ 1048576) (h : ∀ y ∈ x.f1, y.f2.length ≤ 1048576) : Ev (fun k => laws_eqVol.f k x.f0 x.f1 x.f0 x.f1) true := by
  unfold laws_eqVol.f
  exact Ev.pos rfl (Ev.bind (eqPtrS_ev x.f1 hl h) (Ev.pos rfl (Ev.ret rfl)))
theorem eqVolS_l0 (l : List S65) (hl : l.length ≤ 1048576) (hF : ∀ x ∈ l, (x.f1.length ≤ 1048576 ∧ ∀ y ∈ x.f1, y.f2.length ≤ 1048576)) (d : Nat) : ∀ i : Nat, i + d = l.length → Ev (fun k => laws_eqVolS.l0 k l l (i : Int)) true := by
  induction d with
  | zero =>
    intro i hi
    refine Ev.next ?_
    simp only [laws_eqVolS.l0]
    exact Ev.neg (by omega) (Ev.ret rfl)
  | succ d ih =>
    intro i hi
    have e : wrap64 ((i : Int) + 1) = ((i + 1 : Nat) : Int) := by rw [wrap_ok (by omega)]; omega
    have hih := ih (i + 1) (by omega)
    have hx := hF _ (getD_mem (z := z65) (i := i) (l := l) (by omega))
    refine Ev.next ?_
    simp only [laws_eqVolS.l0, e, rd65n]
    clear e
    exact Ev.pos (by omega) (Ev.pos (by omega) (Ev.pos (by omega) (Ev.bind (eqVol_ev _ hx.1 hx.2) (Ev.pos rfl hih))))
theorem eqVolS_ev (l : List S65) (hl : l.length ≤ 1048576) (hF : ∀ x ∈ l, (x.f1.length ≤ 1048576 ∧ ∀ y ∈ x.f1, y.f2.length ≤ 1048576)) : Ev (fun k => laws_eqVolS.f k l l) true := by
  unfold laws_eqVolS.f
  exact Ev.pos rfl (eqVolS_l0 l hl hF _ 0 (Nat.zero_add _))
theorem eqRoot_ev (tx : Int) (l : List S65) (h : FitM l) : Ev (fun k => laws_eqRoot.f k tx l tx l) true := by
  unfold laws_eqRoot.f
  exact Ev.pos rfl (Ev.bind (eqVolS_ev l h.len (fun x hx => ⟨h.ptrs x hx, h.places x hx⟩)) (Ev.pos rfl (Ev.ret rfl)))
end Go.Proofs.Ytkoimmeghdbodaa.Pure
namespace Go.Proofs.Ytkoimmeghdbodaa.Pure
open Go.RowKit Go.Proofs.Ytkoimmeghdbodaa.Print Go.Proofs.YtkoimmeghdbodaaW.PrintWords Go.Proofs.YtkoimmeghdbodaaW.PrintLast
set_option linter.unusedSimpArgs false
set_option linter.unusedVariables false
theorem volB_iff {s : ByteArray} (h : 1 ≤ s.size ∧ s.size ≤ 3) : volB s = true ↔ ∀ j : Nat, j < s.size → letB (bt s (j : Int)) = true := by
  unfold volB
  rw [decide_eq_true h, Bool.true_and, List.all_eq_true]
  exact ⟨fun x j hj => x j (List.mem_range.2 hj), fun x j hj => x j (List.mem_range.1 hj)⟩
theorem l2Name_l0 (s : ByteArray) (h : 1 ≤ s.size ∧ s.size ≤ 3) (d : Nat) : ∀ i : Nat, i + d = s.size → (∀ j : Nat, j < i → letB (bt s (j : Int)) = true) → Ev (fun k => spec_l2Name.l0 k s (i : Int)) (volB s) := by
  induction d with
  | zero =>
    intro i hi hj
    refine Ev.next ?_
    simp only [spec_l2Name.l0]
    exact Ev.neg (by omega) (Ev.ret ((volB_iff h).2 fun j hj2 => hj j (by omega)).symm)
  | succ d ih =>
    intro i hi hj
    have e : wrap64 ((i : Int) + 1) = ((i + 1 : Nat) : Int) := by rw [wrap_ok (by omega)]; omega
    refine Ev.next ?_
    simp only [spec_l2Name.l0, e]
    clear e
    refine Ev.pos (by omega) (Ev.pos (by omega) ?_)
    have bad : letB (bt s (i : Int)) = false → volB s = false := fun hb => by
      rw [Bool.eq_false_iff]
      intro hv
      have := (volB_iff h).1 hv i (by omega)
      rw [hb] at this
      cases this
    by_cases c1 : bt s (i : Int) < 97
    · exact Ev.pos c1 (Ev.ret (bad (decide_eq_false (by omega))).symm)
    · by_cases c2 : bt s (i : Int) > 122
      · exact Ev.neg c1 (Ev.pos c2 (Ev.ret (bad (decide_eq_false (by omega))).symm))
      · refine Ev.neg c1 (Ev.neg c2 (ih (i + 1) (by omega) fun j hj2 => ?_))
        by_cases e : j = i
        · rw [e]; exact decide_eq_true (by omega)
        · exact hj j (by omega)
theorem l2Name_ev (s : ByteArray) : Ev (fun k => spec_l2Name.f k s) (volB s) := by
  unfold spec_l2Name.f
  refine Ev.take (l6In_eq _ _ _) ?_
  by_cases h : 1 ≤ s.size ∧ s.size ≤ 3
  · exact Ev.pos (decide_eq_true (by omega)) (l2Name_l0 s h s.size 0 (Nat.zero_add _) (fun j hj => by omega))
  · exact Ev.neg (by rw [decide_eq_true_iff]; omega) (Ev.ret (vol_long h).symm)
theorem decide_and' {p q : Prop} [Decidable p] [Decidable q] : decide (p ∧ q) = (decide p && decide q) := by by_cases hp : p <;> by_cases hq : q <;> simp [hp, hq]
theorem drop_getD {α : Type} (l : List α) (z : α) (i : Nat) (h : i < l.length) : l.drop i = l.getD i z :: l.drop (i + 1) := by
  rw [List.drop_eq_getElem_cons h, List.getD, List.getElem?_eq_getElem h]
  rfl
theorem eq37 (x y : S37) : (x.f0 == y.f0 && (x.f1 == y.f1)) = decide (x = y) := by
  by_cases h : x = y
  · rw [h, decide_eq_true rfl]
    simp
  · rw [decide_eq_false h, Bool.and_eq_false_iff]
    by_cases h0 : x.f0 = y.f0
    · right
      rw [beq_eq_false_iff_ne]
      intro h1
      exact h (by cases x; cases y; simp only at h0 h1; rw [h0, h1])
    · left
      rwa [beq_eq_false_iff_ne]
def meetB (a b : List S37) : Bool := a.any fun x => b.any fun y => decide (x = y)
theorem meetB_iff (a b : List S37) : meetB a b = true ↔ ∃ x, x ∈ a ∧ x ∈ b := by
  unfold meetB
  rw [List.any_eq_true]
  constructor
  · rintro ⟨x, hx, h⟩
    obtain ⟨y, hy, h2⟩ := List.any_eq_true.1 h
    exact ⟨x, hx, by rw [of_decide_eq_true h2]; exact hy⟩
  · rintro ⟨x, hx, h⟩
    exact ⟨x, hx, List.any_eq_true.2 ⟨x, h, decide_eq_true rfl⟩⟩
theorem meet_l1 (s m : Int) (a : List S37) (s2 m2 : Int) (b : List S37) (ha : a.length ≤ 1048576) (hb : b.length ≤ 1048576) (i : Nat) (hi : i < a.length) {r : Bool} (k : Ev (fun k => spec_l2Meet.l0 k ((i + 1 : Nat) : Int) s m a s2 m2 b) r) (d : Nat) :
    ∀ j : Nat, j + d = b.length → Ev (fun k => spec_l2Meet.l1 k (i : Int) (j : Int) s m a s2 m2 b) (((b.drop j).any fun y => decide (a.getD i z37 = y)) || r) := by
  have e : wrap64 ((i : Int) + 1) = ((i + 1 : Nat) : Int) := by rw [wrap_ok (by omega)]; omega
  induction d with
  | zero =>
    intro j hj
    refine Ev.next ?_
    simp only [spec_l2Meet.l1, e]
    clear e
    refine Ev.neg (by omega) ?_
    rw [List.drop_of_length_le (by omega)]
    exact k
  | succ d ih =>
    intro j hj
    have e2 : wrap64 ((j : Int) + 1) = ((j + 1 : Nat) : Int) := by rw [wrap_ok (by omega)]; omega
    have hih := ih (j + 1) (by omega)
    rw [drop_getD b z37 j (by omega), List.any_cons]
    refine Ev.next ?_
    simp only [spec_l2Meet.l1, e2, rd37n, eq37]
    clear e e2
    refine Ev.pos (by omega) (Ev.pos (by omega) (Ev.pos (by omega) (Ev.pos (by omega) ?_)))
    by_cases c : a.getD i z37 = b.getD j z37
    · exact Ev.pos (decide_eq_true c) (Ev.ret (by rw [decide_eq_true c]; rfl))
    · refine Ev.neg (by rw [decide_eq_true_iff]; exact c) ?_
      rw [decide_eq_false c, Bool.false_or]
      exact hih
theorem meet_l0 (s m : Int) (a : List S37) (s2 m2 : Int) (b : List S37) (ha : a.length ≤ 1048576) (hb : b.length ≤ 1048576) (d : Nat) :
    ∀ i : Nat, i + d = a.length → Ev (fun k => spec_l2Meet.l0 k (i : Int) s m a s2 m2 b) (meetB (a.drop i) b) := by
  induction d with
  | zero =>
    intro i hi
    refine Ev.next ?_
    simp only [spec_l2Meet.l0]
    exact Ev.neg (by omega) (Ev.ret (by rw [List.drop_of_length_le (by omega)]; rfl))
  | succ d ih =>
    intro i hi
    have h := meet_l1 s m a s2 m2 b ha hb i (by omega) (ih (i + 1) (by omega)) b.length 0 (Nat.zero_add _)
    rw [List.drop_zero] at h
    refine Ev.next ?_
    simp only [spec_l2Meet.l0]
    refine Ev.pos (by omega) ?_
    unfold meetB at h ⊢
    rw [drop_getD a z37 i (by omega), List.any_cons]
    exact h
theorem meet_ev (a b : S29) (ha : a.f2.length ≤ 1048576) (hb : b.f2.length ≤ 1048576) : Ev (fun k => spec_l2Meet.f k a.f0 a.f1 a.f2 b.f0 b.f1 b.f2) (meetB a.f2 b.f2) := by
  unfold spec_l2Meet.f
  exact meet_l0 a.f0 a.f1 a.f2 b.f0 b.f1 b.f2 ha hb a.f2.length 0 (Nat.zero_add _)
theorem same_l0 (s m : Int) (a : List S37) (s2 m2 : Int) (b : List S37) (ha : a.length ≤ 1048576) (hl : a.length = b.length) (d : Nat) :
    ∀ i : Nat, i + d = a.length → Ev (fun k => spec_l2Same.l0 k (i : Int) s m a s2 m2 b) (decide (a.drop i = b.drop i)) := by
  induction d with
  | zero =>
    intro i hi
    refine Ev.next ?_
    simp only [spec_l2Same.l0]
    exact Ev.neg (by omega) (Ev.ret (by rw [List.drop_of_length_le (by omega), List.drop_of_length_le (by omega), decide_eq_true rfl]))
  | succ d ih =>
    intro i hi
    have e : wrap64 ((i : Int) + 1) = ((i + 1 : Nat) : Int) := by rw [wrap_ok (by omega)]; omega
    have hih := ih (i + 1) (by omega)
    rw [drop_getD a z37 i (by omega), drop_getD b z37 i (by omega)]
    have key : (!((a.getD i z37).f0 == (b.getD i z37).f0) || (!((a.getD i z37).f1 == (b.getD i z37).f1))) = !(decide (a.getD i z37 = b.getD i z37)) := by
      rw [← eq37, Bool.not_and]
    refine Ev.next ?_
    simp only [spec_l2Same.l0, e, rd37n, key]
    clear e key
    refine Ev.pos (by omega) (Ev.pos (by omega) (Ev.pos (by omega) ?_))
    by_cases c : a.getD i z37 = b.getD i z37
    · refine Ev.neg (by rw [decide_eq_true c]; simp) ?_
      rw [c]
      have : (b.getD i z37 :: a.drop (i + 1) = b.getD i z37 :: b.drop (i + 1)) ↔ a.drop (i + 1) = b.drop (i + 1) := by simp
      simp only [this]
      exact hih
    · exact Ev.pos (by rw [decide_eq_false c]; rfl) (Ev.ret (by rw [decide_eq_false]; intro h; exact c (List.cons.inj h).1))
theorem specSame_ev (a b : S29) (ha : a.f2.length ≤ 1048576) : Ev (fun k => spec_l2Same.f k a.f0 a.f1 a.f2 b.f0 b.f1 b.f2) (sameB a b) := by
  unfold spec_l2Same.f sameB
  have bad : Ev (fun k => spec_l2Same.j0 k true a.f0 a.f1 a.f2 b.f0 b.f1 b.f2) false := by
    refine Ev.next ?_
    simp only [spec_l2Same.j0]
    exact Ev.pos trivial (Ev.ret rfl)
  by_cases h0 : a.f0 = b.f0
  · rw [decide_eq_true h0, Bool.true_and]
    refine Ev.pos h0 ?_
    by_cases h1 : a.f1 = b.f1
    · rw [decide_eq_true h1, Bool.true_and]
      refine Ev.pos h1 ?_
      refine Ev.next ?_
      simp only [spec_l2Same.j0]
      by_cases h2 : a.f2.length = b.f2.length
      · refine Ev.neg (by simp [h2]) ?_
        exact same_l0 a.f0 a.f1 a.f2 b.f0 b.f1 b.f2 ha h2 a.f2.length 0 (Nat.zero_add _)
      · refine Ev.pos (by rw [bne_iff_ne]; omega) (Ev.ret ?_)
        rw [decide_eq_false]
        intro h
        exact h2 (by rw [h])
    · rw [decide_eq_false h1, Bool.false_and]
      exact Ev.neg h1 bad
  · rw [decide_eq_false h0, Bool.false_and]
    exact Ev.neg h0 bad
theorem all_l0 (tx : Int) (vs : List S65) (hl : vs.length ≤ 4) (h3 : ∀ x ∈ vs, x.f1.length = 3) (d : Nat) : ∀ i : Nat, i + d = vs.length → Ev (fun k => spec_l2All.l0 k (ptrs (vs.take i)) (i : Int) tx vs) (ptrs vs) := by
  induction d with
  | zero =>
    intro i hi
    refine Ev.next ?_
    simp only [spec_l2All.l0]
    exact Ev.neg (by omega) (Ev.ret (by rw [List.take_of_length_le (by omega)]))
  | succ d ih =>
    intro i hi
    have e : wrap64 ((i : Int) + 1) = ((i + 1 : Nat) : Int) := by rw [wrap_ok (by omega)]; omega
    have hih := ih (i + 1) (by omega)
    have hn : ptrs (vs.take (i + 1)) = ptrs (vs.take i) ++ (vs.getD i z65).f1 := by
      unfold ptrs
      rw [take65 vs i (by omega), List.flatMap_append]
      simp
    rw [hn] at hih
    have hb := h3 _ (getD_mem (z := z65) (i := i) (l := vs) (by omega))
    have hp := ptrs_take_len h3 i (by omega)
    refine Ev.next ?_
    simp only [spec_l2All.l0, e, rd65n]
    clear e
    exact Ev.pos (by omega) (Ev.pos (by omega) (Ev.pos (by omega) hih))
theorem all_ev (tx : Int) (vs : List S65) (hl : vs.length ≤ 4) (h3 : ∀ x ∈ vs, x.f1.length = 3) : Ev (fun k => spec_l2All.f k tx vs) (ptrs vs) := by
  unfold spec_l2All.f
  exact all_l0 tx vs hl h3 vs.length 0 (Nat.zero_add _)
def pairB (p q : S29) : Bool := !meetB p.f2 q.f2 || sameB p q
def ptrAt (n : Int) (ps : List S29) (i : Nat) : Bool := ptrC n (ps.getD i z29) && decide (∀ q, q < i → pairB (ps.getD i z29) (ps.getD q z29) = true)
theorem pairs_l3 (n : Int) (ps : List S29) (hl : ps.length ≤ 1048576) (hF : ∀ p ∈ ps, p.f2.length ≤ 1048576) (i : Nat) (hi : i < ps.length) {r : Bool} (k : Ev (fun k => spec_l2Vols.l2 k n ps ((i + 1 : Nat) : Int)) r) (d : Nat) :
    ∀ j : Nat, j + d = i → Ev (fun k => spec_l2Vols.l3 k n ps (i : Int) (j : Int)) (decide (∀ q, q < i → j ≤ q → pairB (ps.getD i z29) (ps.getD q z29) = true) && r) := by
  have e : wrap64 ((i : Int) + 1) = ((i + 1 : Nat) : Int) := by rw [wrap_ok (by omega)]; omega
  have hpi := hF _ (getD_mem (z := z29) (i := i) (l := ps) (by omega))
  induction d with
  | zero =>
    intro j hj
    refine Ev.next ?_
    simp only [spec_l2Vols.l3, e]
    clear e
    refine Ev.neg (by omega) ?_
    rw [decide_eq_true (fun q h1 h2 => by omega), Bool.true_and]
    exact k
  | succ d ih =>
    intro j hj
    have e2 : wrap64 ((j : Int) + 1) = ((j + 1 : Nat) : Int) := by rw [wrap_ok (by omega)]; omega
    have hih := ih (j + 1) (by omega)
    have hpj := hF _ (getD_mem (z := z29) (i := j) (l := ps) (by omega))
    refine Ev.next ?_
    simp only [spec_l2Vols.l3, e2, rd29n]
    clear e e2
    refine Ev.pos (by omega) (Ev.pos (by omega) (Ev.pos (by omega) (Ev.pos (by omega) (Ev.pos (by omega) (Ev.bind (meet_ev _ _ hpi hpj) ?_)))))
    have good : pairB (ps.getD i z29) (ps.getD j z29) = true → decide (∀ q, q < i → j ≤ q → pairB (ps.getD i z29) (ps.getD q z29) = true) = decide (∀ q, q < i → j + 1 ≤ q → pairB (ps.getD i z29) (ps.getD q z29) = true) := by
      intro hg
      apply decide_eq_decide.2
      exact ⟨fun h q h1 h2 => h q h1 (by omega), fun h q h1 h2 => by
        by_cases e : q = j
        · rw [e]; exact hg
        · exact h q h1 (by omega)⟩
    by_cases c : meetB (ps.getD i z29).f2 (ps.getD j z29).f2 = true
    · refine Ev.pos c (Ev.bind (specSame_ev _ _ hpi) ?_)
      by_cases c2 : sameB (ps.getD i z29) (ps.getD j z29) = true
      · refine Ev.pos c2 ?_
        rw [good (by unfold pairB; rw [c2]; simp)]
        exact hih
      · refine Ev.neg c2 (Ev.ret ?_)
        rw [decide_eq_false, Bool.false_and]
        intro h
        have := h j (by omega) (Nat.le_refl _)
        unfold pairB at this
        rw [c] at this
        exact c2 (by simpa using this)
    · refine Ev.neg c ?_
      rw [good (by unfold pairB; rw [show meetB (ps.getD i z29).f2 (ps.getD j z29).f2 = false by simpa using c]; rfl)]
      exact hih
theorem ptrs_l2 (n : Int) (hn : 3 ≤ n ∧ n ≤ 4) (ps : List S29) (hl : ps.length ≤ 1048576) (hF : ∀ p ∈ ps, p.f2.length ≤ 1048576) (d : Nat) :
    ∀ i : Nat, i + d = ps.length → Ev (fun k => spec_l2Vols.l2 k n ps (i : Int)) (decide (∀ t, t < ps.length → i ≤ t → ptrAt n ps t = true)) := by
  induction d with
  | zero =>
    intro i hi
    refine Ev.next ?_
    simp only [spec_l2Vols.l2]
    exact Ev.neg (by omega) (Ev.ret (decide_eq_true fun t h1 h2 => by omega).symm)
  | succ d ih =>
    intro i hi
    have hih := ih (i + 1) (by omega)
    have hpi := hF _ (getD_mem (z := z29) (i := i) (l := ps) (by omega))
    have h3 := pairs_l3 n ps hl hF i (by omega) hih i 0 (Nat.zero_add _)
    have hq := spec_l2Ptr_ev hn (ps.getD i z29).f0 (ps.getD i z29).f1 (ps.getD i z29).f2 (by omega)
    have ec : @decide (PtrGood n (ps.getD i z29).f0 (ps.getD i z29).f1 (ps.getD i z29).f2) (Classical.propDecidable _) = decide (PtrGood n (ps.getD i z29).f0 (ps.getD i z29).f1 (ps.getD i z29).f2) := decide_eq_decide.2 Iff.rfl
    rw [ec] at hq
    refine Ev.next ?_
    simp only [spec_l2Vols.l2, rd29n]
    refine Ev.pos (by omega) (Ev.pos (by omega) (Ev.bind hq ?_))
    by_cases c : PtrGood n (ps.getD i z29).f0 (ps.getD i z29).f1 (ps.getD i z29).f2
    · refine Ev.pos (decide_eq_true c) ?_
      have e1 : ptrC n (ps.getD i z29) = true := decide_eq_true ⟨hn, c⟩
      have : decide (∀ t, t < ps.length → i ≤ t → ptrAt n ps t = true) = (decide (∀ q, q < i → 0 ≤ q → pairB (ps.getD i z29) (ps.getD q z29) = true) && decide (∀ t, t < ps.length → i + 1 ≤ t → ptrAt n ps t = true)) := by
        rw [← decide_and']
        apply decide_eq_decide.2
        constructor
        · intro h
          have h0 := h i (by omega) (Nat.le_refl _)
          unfold ptrAt at h0
          rw [Bool.and_eq_true, decide_eq_true_iff] at h0
          exact ⟨fun q h1 _ => h0.2 q h1, fun t h1 h2 => h t h1 (by omega)⟩
        · rintro ⟨h, h'⟩ t h1 h2
          by_cases e : t = i
          · subst e
            unfold ptrAt
            rw [e1, Bool.true_and, decide_eq_true_iff]
            exact fun q h1 => h q h1 (Nat.zero_le _)
          · exact h' t h1 (by omega)
      rw [this]
      exact h3
    · refine Ev.neg (by rw [decide_eq_true_iff]; exact c) (Ev.ret ?_)
      rw [decide_eq_false]
      intro h
      have h0 := h i (by omega) (Nat.le_refl _)
      unfold ptrAt ptrC at h0
      rw [Bool.and_eq_true, decide_eq_true_iff] at h0
      exact c h0.1.2
def nameAt (vs : List S65) (i : Nat) : Bool := volB (vs.getD i z65).f0 && (decide ((vs.getD i z65).f1.length = 3) && decide (∀ q, q < i → (vs.getD q z65).f0.toList ≠ (vs.getD i z65).f0.toList))
theorem names_l1 (n tx : Int) (vs : List S65) (hl : vs.length ≤ 4) (i : Nat) (hi : i < vs.length) {r : Bool} (k : (∀ q, q < i → (vs.getD q z65).f0.toList ≠ (vs.getD i z65).f0.toList) → Ev (fun k => spec_l2Vols.l0 k n ((i + 1 : Nat) : Int) tx vs) r) (d : Nat) :
    ∀ j : Nat, j + d = i → (∀ q, q < j → (vs.getD q z65).f0.toList ≠ (vs.getD i z65).f0.toList) → Ev (fun k => spec_l2Vols.l1 k n (i : Int) (j : Int) tx vs) (decide (∀ q, q < i → (vs.getD q z65).f0.toList ≠ (vs.getD i z65).f0.toList) && r) := by
  have e : wrap64 ((i : Int) + 1) = ((i + 1 : Nat) : Int) := by rw [wrap_ok (by omega)]; omega
  induction d with
  | zero =>
    intro j hj hq
    have hji : j = i := by omega
    subst hji
    refine Ev.next ?_
    simp only [spec_l2Vols.l1, e]
    clear e
    refine Ev.neg (by omega) ?_
    rw [decide_eq_true hq, Bool.true_and]
    exact k hq
  | succ d ih =>
    intro j hj hq
    have e2 : wrap64 ((j : Int) + 1) = ((j + 1 : Nat) : Int) := by rw [wrap_ok (by omega)]; omega
    refine Ev.next ?_
    simp only [spec_l2Vols.l1, e2, rd65n]
    clear e e2
    refine Ev.pos (by omega) (Ev.pos (by omega) (Ev.pos (by omega) (Ev.pos (by omega) (Ev.pos (by omega) ?_))))
    by_cases c : (vs.getD j z65).f0.toList = (vs.getD i z65).f0.toList
    · refine Ev.pos c (Ev.ret ?_)
      rw [decide_eq_false, Bool.false_and]
      exact fun h => h j (by omega) c
    · exact Ev.neg c (ih (j + 1) (by omega) fun q h1 => by
        by_cases e : q = j
        · rw [e]; exact c
        · exact hq q (by omega))
theorem vols_l0 (n tx : Int) (hn : 3 ≤ n ∧ n ≤ 4) (vs : List S65) (hF : FitM vs) (hl : vs.length ≤ 4) (d : Nat) : ∀ i : Nat, i + d = vs.length → (∀ q, q < i → nameAt vs q = true) →
    Ev (fun k => spec_l2Vols.l0 k n (i : Int) tx vs) (decide (∀ q, q < vs.length → nameAt vs q = true) && decide (∀ t, t < (ptrs vs).length → 0 ≤ t → ptrAt n (ptrs vs) t = true)) := by
  induction d with
  | zero =>
    intro i hi hq
    have h3 : ∀ x ∈ vs, x.f1.length = 3 := fun x hx => by
      obtain ⟨q, hq2, rfl⟩ := List.getElem_of_mem hx
      have := hq q (by omega)
      unfold nameAt at this
      rw [Bool.and_eq_true, Bool.and_eq_true, decide_eq_true_iff] at this
      simpa [List.getD, hq2] using this.2.1
    refine Ev.next ?_
    simp only [spec_l2Vols.l0]
    refine Ev.neg (by omega) (Ev.bind (all_ev tx vs hl h3) ?_)
    rw [decide_eq_true (fun q h => hq q (by omega)), Bool.true_and]
    have hp := ptrs_take_len h3 vs.length (Nat.le_refl _)
    rw [List.take_length] at hp
    exact ptrs_l2 n hn (ptrs vs) (by omega) (fun p hp => by
      obtain ⟨x, hx, h⟩ := List.mem_flatMap.1 hp
      exact hF.places x hx p h) (ptrs vs).length 0 (Nat.zero_add _)
  | succ d ih =>
    intro i hi hq
    have bad : nameAt vs i = false → (decide (∀ q, q < vs.length → nameAt vs q = true) && decide (∀ t, t < (ptrs vs).length → 0 ≤ t → ptrAt n (ptrs vs) t = true)) = false := by
      intro h
      rw [decide_eq_false, Bool.false_and]
      intro h2
      rw [h2 i (by omega)] at h
      cases h
    refine Ev.next ?_
    simp only [spec_l2Vols.l0, rd65n]
    refine Ev.pos (by omega) (Ev.pos (by omega) (Ev.bind (l2Name_ev _) ?_))
    by_cases c : volB (vs.getD i z65).f0 = true
    · refine Ev.pos c (Ev.next ?_)
      simp only [spec_l2Vols.j1]
      by_cases c3 : (vs.getD i z65).f1.length = 3
      · refine Ev.neg (by rw [bne_iff_ne]; omega) ?_
        by_cases hd : ∀ q, q < i → (vs.getD q z65).f0.toList ≠ (vs.getD i z65).f0.toList
        · have hok : nameAt vs i = true := by
            unfold nameAt
            rw [c, decide_eq_true c3, decide_eq_true hd]
            rfl
          have := names_l1 n tx vs hl i (by omega) (fun _ => ih (i + 1) (by omega) fun q h1 => by
            by_cases e : q = i
            · rw [e]; exact hok
            · exact hq q (by omega)) i 0 (Nat.zero_add _) (fun q h => by omega)
          rw [decide_eq_true hd, Bool.true_and] at this
          exact this
        · have := names_l1 n tx vs hl i (by omega) (r := true) (fun h => absurd h hd) i 0 (Nat.zero_add _) (fun q h => by omega)
          rw [decide_eq_false hd, Bool.false_and] at this
          rw [bad (by unfold nameAt; rw [decide_eq_false hd]; simp)]
          exact this
      · refine Ev.pos (by rw [bne_iff_ne]; omega) (Ev.ret (bad ?_).symm)
        unfold nameAt
        rw [decide_eq_false c3]
        simp
    · refine Ev.neg c (Ev.next ?_)
      simp only [spec_l2Vols.j1]
      refine Ev.pos trivial (Ev.ret (bad ?_).symm)
      unfold nameAt
      rw [show volB (vs.getD i z65).f0 = false by simpa using c, Bool.false_and]
def specB (n tx : Int) (vs : List S65) : Bool := decide (3 ≤ n ∧ n ≤ 4) && (decide (0 ≤ tx ∧ tx ≤ 100000) && (decide (vs.length ≤ 4) && (decide (∀ q, q < vs.length → nameAt vs q = true) && decide (∀ t, t < (ptrs vs).length → 0 ≤ t → ptrAt n (ptrs vs) t = true))))
theorem specRoot_ev (n tx : Int) (vs : List S65) (hF : FitM vs) : Ev (fun k => spec_RootOk.f k n tx vs) (specB n tx vs) := by
  unfold spec_RootOk.f specB spec_l2Disks.f
  refine Ev.take (a := decide (3 ≤ n ∧ n ≤ 4)) (by rw [l6In_eq]; rfl) ?_
  by_cases hn : 3 ≤ n ∧ n ≤ 4
  · rw [decide_eq_true hn, Bool.true_and]
    refine Ev.pos rfl (Ev.take (l6In_eq _ _ _) ?_)
    by_cases ht : 0 ≤ tx ∧ tx ≤ 100000
    · rw [decide_eq_true ht, Bool.true_and]
      refine Ev.pos rfl ?_
      by_cases hl : vs.length ≤ 4
      · rw [decide_eq_true hl, Bool.true_and]
        refine Ev.pos (by omega) (Ev.bind ?_ (Ev.ret rfl))
        unfold spec_l2Vols.f
        exact vols_l0 n tx hn vs hF hl vs.length 0 (Nat.zero_add _) (fun q h => by omega)
      · exact Ev.neg (by omega) (Ev.ret (by rw [decide_eq_false hl]; rfl))
    · exact Ev.neg (by rw [decide_eq_true_iff]; exact ht) (Ev.ret (by rw [decide_eq_false ht]; rfl))
  · exact Ev.neg (by rw [decide_eq_true_iff]; exact hn) (Ev.ret (by rw [decide_eq_false hn]; rfl))
end Go.Proofs.Ytkoimmeghdbodaa.Pure
namespace Go.Proofs.Ytkoimmeghdbodaa.Pure
open Go.RowKit Go.Proofs.Ytkoimmeghdbodaa.Print Go.Proofs.YtkoimmeghdbodaaW.PrintWords Go.Proofs.YtkoimmeghdbodaaW.PrintLast
set_option linter.unusedSimpArgs false
set_option linter.unusedVariables false
theorem lastL_append (A B : List (S37 × Nat)) (x : S37) : lastL (A ++ B) x = match lastL B x with | some t => some t | none => lastL A x := by
  refine rev_ind (P := fun B => lastL (A ++ B) x = match lastL B x with | some t => some t | none => lastL A x) ?_ (fun L q ih => ?_) B
  · rw [List.append_nil]
    rfl
  · rw [← List.append_assoc, lastL_snoc, lastL_snoc]
    by_cases e : q.1 = x
    · rw [if_pos e, if_pos e]
    · rw [if_neg e, if_neg e]
      exact ih
theorem lastL_map (x : S37) (t : Nat) (l : List S37) : lastL (l.map fun y => (y, t)) x = if x ∈ l then some t else none := by
  refine rev_ind (P := fun l => lastL (l.map fun y => (y, t)) x = if x ∈ l then some t else none) (by simp [lastL]) (fun l y ih => ?_) l
  rw [List.map_append, List.map_cons, List.map_nil, lastL_snoc, ih]
  by_cases e : y = x
  · subst e
    simp
  · have : x ∈ l ++ [y] ↔ x ∈ l := by
      rw [List.mem_append, List.mem_singleton]
      exact ⟨fun h => h.elim id (fun h => absurd h.symm e), Or.inl⟩
    simp only [this, if_neg e]
theorem pre_succ (ps : List S29) (i : Nat) : preL ps (i + 1) = preL ps i ++ (ps.getD i z29).f2.map fun x => (x, i) := by
  simp only [preL, List.range_succ, List.flatMap_append, List.flatMap_cons, List.flatMap_nil, List.append_nil]
theorem pre_last (ps : List S29) (x : S37) : ∀ i : Nat, match lastL (preL ps i) x with
    | some t => t < i ∧ x ∈ (ps.getD t z29).f2 ∧ ∀ q, t < q → q < i → x ∉ (ps.getD q z29).f2
    | none => ∀ q, q < i → x ∉ (ps.getD q z29).f2 := by
  intro i
  induction i with
  | zero =>
    have : lastL (preL ps 0) x = none := rfl
    rw [this]
    intro q h
    omega
  | succ i ih =>
    rw [pre_succ, lastL_append, lastL_map]
    by_cases c : x ∈ (ps.getD i z29).f2
    · rw [if_pos c]
      exact ⟨by omega, c, fun q h1 h2 => by omega⟩
    · rw [if_neg c]
      cases hL : lastL (preL ps i) x with
      | none =>
        rw [hL] at ih
        intro q hq
        by_cases e : q = i
        · rw [e]; exact c
        · exact ih q (by omega)
      | some t =>
        rw [hL] at ih
        exact ⟨by omega, ih.2.1, fun q h1 h2 => by
          by_cases e : q = i
          · rw [e]; exact c
          · exact ih.2.2 q h1 (by omega)⟩
theorem sameB_iff (a b : S29) : sameB a b = true ↔ a.f0 = b.f0 ∧ a.f1 = b.f1 ∧ a.f2 = b.f2 := by
  unfold sameB
  simp only [Bool.and_eq_true, decide_eq_true_iff]
theorem first_at (x : S37) : ∀ l : List S37, x ∈ l → ∃ j, j < l.length ∧ l.getD j z37 = x ∧ x ∉ l.take j := by
  intro l
  induction l with
  | nil => intro h; simp at h
  | cons y ys ih =>
    intro h
    by_cases e : y = x
    · exact ⟨0, by simp, by simp [e], by simp⟩
    · obtain ⟨j, h1, h2, h3⟩ := ih ((List.mem_cons.1 h).resolve_left (fun h => e h.symm))
      refine ⟨j + 1, by simp; omega, by simpa using h2, ?_⟩
      rw [List.take_succ_cons, List.mem_cons]
      rintro (h | h)
      · exact e h.symm
      · exact h3 h
theorem pairB_iff (p q : S29) : pairB p q = true ↔ ∀ x, x ∈ p.f2 → x ∈ q.f2 → sameB p q = true := by
  unfold pairB
  rw [Bool.or_eq_true, Bool.not_eq_true']
  constructor
  · rintro (h | h) x h1 h2
    · have := (meetB_iff p.f2 q.f2).2 ⟨x, h1, h2⟩
      rw [h] at this
      cases this
    · exact h
  · intro h
    by_cases c : meetB p.f2 q.f2 = true
    · obtain ⟨x, h1, h2⟩ := (meetB_iff p.f2 q.f2).1 c
      exact Or.inr (h x h1 h2)
    · exact Or.inl (by simpa using c)
theorem own_iff (ps : List S29) : implOwn ps = true ↔ ∀ i, i < ps.length → ∀ q, q < i → pairB (ps.getD i z29) (ps.getD q z29) = true := by
  rw [implOwn_iff]
  constructor
  · intro h
    have key : ∀ n i, i < n → i < ps.length → ∀ q, q < i → ∀ x, x ∈ (ps.getD i z29).f2 → x ∈ (ps.getD q z29).f2 → sameB (ps.getD i z29) (ps.getD q z29) = true := by
      intro n
      induction n with
      | zero => intro i h; omega
      | succ n ih =>
        intro i hin hi q hq x hx hxq
        obtain ⟨j, hj, hjx, hjn⟩ := first_at x _ hx
        have hs := (rowOk_iff ps i).1 (h i hi) j hj
        unfold stepOk putL at hs
        rw [hjx, lastL_append, lastL_map, if_neg hjn] at hs
        have hp := pre_last ps x i
        cases hL : lastL (preL ps i) x with
        | none =>
          rw [hL] at hp
          exact absurd hxq (hp q hq)
        | some t =>
          rw [hL] at hp hs
          simp only at hp hs
          by_cases e : q = t
          · rw [e]; exact hs
          · have hlt : q < t := by
              apply Classical.byContradiction
              intro hc
              exact hp.2.2 q (by omega) hq hxq
            have h2 := ih t (by omega) (by omega) q hlt x hp.2.1 hxq
            have a := (sameB_iff _ _).1 hs
            have b := (sameB_iff _ _).1 h2
            exact (sameB_iff _ _).2 ⟨a.1.trans b.1, a.2.1.trans b.2.1, a.2.2.trans b.2.2⟩
    intro i hi q hq
    rw [pairB_iff]
    exact key (i + 1) i (by omega) hi q hq
  · intro h i hi
    rw [rowOk_iff]
    intro j hj
    unfold stepOk
    cases hL : lastL (putL ps i j) ((ps.getD i z29).f2.getD j z37) with
    | none => rfl
    | some t =>
      have hm := putL_mem (lastL_mem hL)
      by_cases e : t = i
      · subst e
        exact (sameB_iff _ _).2 ⟨rfl, rfl, rfl⟩
      · exact (pairB_iff _ _).1 (h i hi t (by have := hm.1; omega)) _ (getD_mem hj) hm.2
theorem take_any (vs : List S65) (i : Nat) (hi : i < vs.length) : (vs.take i).any (fun x : S65 => x.f0.toList == (vs.getD i z65).f0.toList) = false ↔ ∀ q, q < i → (vs.getD q z65).f0.toList ≠ (vs.getD i z65).f0.toList := by
  rw [List.any_eq_false]
  constructor
  · intro h q hq he
    have hm : vs.getD q z65 ∈ vs.take i := by
      rw [List.mem_take_iff_getElem]
      exact ⟨q, by omega, by simp [List.getD, show q < vs.length by omega]⟩
    exact h _ hm (by rw [he]; simp)
  · intro h x hx he
    rw [List.mem_take_iff_getElem] at hx
    obtain ⟨q, hq, rfl⟩ := hx
    have := h q (by omega)
    apply this
    simp only [List.getD, show q < vs.length by omega, getElem?_pos, Option.getD_some] at he ⊢
    exact beq_iff_eq.1 he
theorem volAt_iff (n : Int) (vs : List S65) (i : Nat) (hi : i < vs.length) : volAt n vs i = true ↔ nameAt vs i = true ∧ ∀ p ∈ (vs.getD i z65).f1, ptrC n p = true := by
  unfold volAt nameAt
  simp only [Bool.and_eq_true, decide_eq_true_iff, Bool.not_eq_true']
  rw [take_any vs i hi, List.any_eq_false]
  constructor
  · rintro ⟨⟨h1, h2⟩, h3, h4⟩
    exact ⟨⟨h1, h2, h3⟩, fun p hp => by simpa using h4 p hp⟩
  · rintro ⟨⟨h1, h2, h3⟩, h4⟩
    exact ⟨⟨h1, h2⟩, h3, fun p hp => by rw [h4 p hp]; simp⟩
theorem rootB_eq (n tx : Int) (vs : List S65) : rootB n tx vs = specB n tx vs := by
  rw [Bool.eq_iff_iff]
  unfold rootB specB
  simp only [Bool.and_eq_true, decide_eq_true_iff]
  constructor
  · rintro ⟨hn, ht0, ht1, hv, ho⟩
    have hg := vols_good hv
    have ho := (own_iff _).1 ho
    unfold volsB at hv
    rw [Bool.and_eq_true, List.all_eq_true] at hv
    refine ⟨hn, ⟨ht0, ht1⟩, hg.1, fun q hq => ((volAt_iff n vs q hq).1 (hv.1 q (List.mem_range.2 hq))).1, fun t ht _ => ?_⟩
    unfold ptrAt
    rw [hg.2.2 _ (getD_mem ht), Bool.true_and, decide_eq_true_iff]
    exact ho t ht
  · rintro ⟨hn, ⟨ht0, ht1⟩, hl, hv, hp⟩
    have hp2 : ∀ p ∈ ptrs vs, ptrC n p = true := fun p hpm => by
      obtain ⟨t, ht, rfl⟩ := List.getElem_of_mem hpm
      have := hp t ht (Nat.zero_le _)
      unfold ptrAt at this
      rw [Bool.and_eq_true] at this
      simpa [List.getD, ht] using this.1
    refine ⟨hn, ht0, ht1, ?_, (own_iff _).2 fun t ht => ?_⟩
    · unfold volsB
      rw [Bool.and_eq_true, List.all_eq_true, decide_eq_true_iff]
      refine ⟨fun q hq => ?_, hl⟩
      have hq := List.mem_range.1 hq
      exact (volAt_iff n vs q hq).2 ⟨hv q hq, fun p hpm => hp2 p (List.mem_flatMap.2 ⟨_, getD_mem hq, hpm⟩)⟩
    · have := hp t ht (Nat.zero_le _)
      unfold ptrAt at this
      rw [Bool.and_eq_true, decide_eq_true_iff] at this
      exact this.2
theorem implRoot_some (n tx : Int) (vs : List S65) (hF : FitM vs) : impl_RootOk.f n tx vs = some (specB n tx vs) := by
  unfold impl_RootOk.f
  rw [if_pos, rootB_eq]
  rw [List.all_eq_true]
  intro x hx
  rw [List.all_eq_true]
  intro y hy
  exact decide_eq_true (hF.places x hx y hy)
end Go.Proofs.Ytkoimmeghdbodaa.Pure
namespace Go.Proofs.Ytkoimmeghdbodaa.Take
open Go.RowKit Go.Proofs.YtkoimmeghdbodaaW.PrintWords
structure Opens {α : Type} (P : Program) (t : TypeId) (d : Kd α) (Wf : α → Prop) : Prop where
  sz : P.cellsOf t = d.sz
  opens : ∀ (H : Type) (enc : TypeId × Value → H) (w : World) (base : Nat) (spare : Nat → Bool) (held : Bool) (fuel : Nat) (cs : List Value) (x : DataW H × List MemPlace), DataW.trod enc P w base spare held fuel t cs = some x → ∃ y : α, d.K w y cs ∧ Wf y
theorem list_of {α : Type} {p : Nat → α → Prop} (n : Nat) (h : ∀ i, i < n → ∃ y, p i y) : ∃ l : List α, l.length = n ∧ ∀ i y, l[i]? = some y → p i y := by
  induction n with
  | zero => exact ⟨[], rfl, fun i y hy => by simp at hy⟩
  | succ n ih =>
    obtain ⟨l, hl, hp⟩ := ih (fun i hi => h i (by omega))
    obtain ⟨z, hz⟩ := h n (by omega)
    refine ⟨l ++ [z], by simp [hl], fun i y hy => ?_⟩
    by_cases hi : i < l.length
    · rw [List.getElem?_append_left hi] at hy
      exact hp i y hy
    · have hin : i = n := by
        have h1 := (List.getElem?_eq_some_iff.1 hy).1
        simp at h1
        omega
      subst hin
      rw [List.getElem?_append_right (by omega)] at hy
      have : z = y := by simpa [hl] using hy
      rw [← this]
      exact hz
theorem addr_add (a : Addr) (i j : Nat) : (a.add i).add j = a.add (i + j) := by
  unfold Addr.add
  by_cases hi : i = 0 <;> by_cases hj : j = 0 <;> simp [hi, hj, Nat.add_assoc]
section
variable {P : Program} {t e : TypeId}
theorem Opens.int {k : IntKind} (ht : P.underlying t = some (.int k)) (hs : P.cellsOf t = 1) : Opens P t (Kd.int k) (fun x => (Lit.int k x).wf = true) := ⟨hs, by
  intro H enc w base spare held fuel cs x h
  obtain ⟨n, rfl, _, hw⟩ := DataW.trod_int ht h
  exact ⟨n, rfl, hw⟩⟩
theorem Opens.bool (ht : P.underlying t = some .bool) (hs : P.cellsOf t = 1) : Opens P t Kd.bool (fun _ => True) := ⟨hs, by
  intro H enc w base spare held fuel cs x h
  obtain ⟨b, rfl, _⟩ := DataW.trod_bool ht h
  exact ⟨b, rfl, trivial⟩⟩
theorem Opens.string (ht : P.underlying t = some .string) (hs : P.cellsOf t = 1) : Opens P t Kd.string (fun s => s.size ≤ maxLen) := ⟨hs, by
  intro H enc w base spare held fuel cs x h
  obtain ⟨s, rfl, _, hw⟩ := DataW.trod_string ht h
  exact ⟨s, rfl, hw⟩⟩
theorem Opens.slice {α : Type} {d : Kd α} {Wf : α → Prop} (ht : P.underlying t = some (.slice e)) (hs : P.cellsOf t = 1) (he : Opens P e d Wf) :
    Opens P t (Kd.slice e d) (fun l => l.length ≤ maxLen ∧ ∀ x ∈ l, Wf x) := ⟨hs, by
  intro H enc w base spare held fuel cs x h
  rcases DataW.trod_slice ht h with ⟨rfl, _⟩ | ⟨a, len, cap, elems, rest, n, _, rfl, _, _, hl, hm, hlen, hel, _⟩
  · exact ⟨[], ⟨none, 0, rfl, Nat.le_refl _, Kd.C_nil d w⟩, Nat.zero_le _, fun x hx => by simp at hx⟩
  · obtain ⟨l, hll, hp⟩ := list_of (p := fun i y => Wf y ∧ ∃ c, c.length = d.sz ∧ d.K w y c ∧ ∀ j u, c[j]? = some u → w.cell? (a.add (i * d.sz + j)) = some u) len (fun i hi => by
      have h1 := hel i hi
      rw [List.getElem?_eq_getElem (by omega)] at h1
      obtain ⟨cs', h2, h3⟩ := Option.bind_eq_some_iff.1 h1
      obtain ⟨_, h4, h5⟩ := World.cells?_some h2
      obtain ⟨y, hy, hw⟩ := he.opens H enc w base spare held n cs' _ h3
      refine ⟨y, hw, cs', h4.trans he.sz, hy, fun j u hu => ?_⟩
      have hj : j < P.cellsOf e := by
        have := (List.getElem?_eq_some_iff.1 hu).1
        omega
      have h6 := h5 j hj
      rw [addr_add, he.sz] at h6
      rw [h6, hu])
    refine ⟨l, ⟨some a, cap, by rw [hll], by omega, ?_⟩, by omega, fun x hx => ?_⟩
    · refine ⟨rfl, by have : maxLen = 9223372036854775807 := by decide
                      omega, fun _ => ⟨a, rfl, fun j p hj => (hp j p hj).2⟩⟩
    · obtain ⟨i, hi⟩ := List.getElem?_of_mem hx
      exact (hp i x hi).1⟩
structure Tail {α : Type} (P : Program) (fs : Array Field) (i o : Nat) (d : Kd α) (Wf : α → Prop) : Prop where
  opens : ∀ (H : Type) (enc : TypeId × Value → H) (w : World) (base : Nat) (spare : Nat → Bool) (held : Bool) (n : Nat) (cs : List Value) (xs : List (DataW H × List MemPlace)), xs.length = fs.size → cs.length = o + d.sz →
    (∀ (j : Nat) (f : Field), fs[j]? = some f → DataW.trod enc P w base spare held n f.type ((cs.drop f.offset).take (P.cellsOf f.type)) = xs[j]?) → ∃ y : α, d.K w y (cs.drop o) ∧ Wf y
theorem Tail.last {α : Type} {fs : Array Field} {i o : Nat} {d : Kd α} {Wf : α → Prop} (f : Field) (hf : fs[i]? = some f) (ho : f.offset = o) (h : Opens P f.type d Wf) : Tail P fs i o d Wf := ⟨by
  intro H enc w base spare held n cs xs hx hl he
  have h1 := he i f hf
  have hi : i < xs.length := by
    have := (Array.getElem?_eq_some_iff.1 hf).1
    omega
  rw [ho, h.sz, List.take_of_length_le (by rw [List.length_drop]; omega), List.getElem?_eq_getElem hi] at h1
  exact h.opens H enc w base spare held n _ _ h1⟩
theorem Tail.cons {α β : Type} {fs : Array Field} {i o : Nat} {d : Kd α} {d' : Kd β} {Wf : α → Prop} {Wf' : β → Prop} (f : Field) (hf : fs[i]? = some f) (ho : f.offset = o) (h : Opens P f.type d Wf) (k : Tail P fs (i + 1) (o + d.sz) d' Wf') :
    Tail P fs i o (Kd.pair d d') (fun p => Wf p.1 ∧ Wf' p.2) := ⟨by
  intro H enc w base spare held n cs xs hx hl he
  have h1 := he i f hf
  have hi : i < xs.length := by
    have := (Array.getElem?_eq_some_iff.1 hf).1
    omega
  rw [ho, h.sz, List.getElem?_eq_getElem hi] at h1
  obtain ⟨y, hy, hw⟩ := h.opens H enc w base spare held n _ _ h1
  have hl' : cs.length = o + (d.sz + d'.sz) := hl
  obtain ⟨z, hz, hw'⟩ := k.opens H enc w base spare held n cs xs hx (by omega) he
  exact ⟨(y, z), ⟨_, _, by rw [← List.drop_drop]; exact (List.take_append_drop d.sz (cs.drop o)).symm, hy, hz⟩, hw, hw'⟩⟩
theorem Opens.struct {α : Type} {d : Kd α} {Wf : α → Prop} {fs : Array Field} (ht : P.underlying t = some (.struct fs)) (hs : P.cellsOf t = d.sz) (k : Tail P fs 0 0 d Wf) : Opens P t d Wf := ⟨hs, by
  intro H enc w base spare held fuel cs x h
  obtain ⟨xs, n, _, _, hl, hx, he⟩ := DataW.trod_struct ht h
  obtain ⟨y, hy, hw⟩ := k.opens H enc w base spare held n cs xs hx (by omega) he
  exact ⟨y, by simpa using hy, hw⟩⟩
theorem Opens.iso {α β : Type} {d : Kd α} {Wf : α → Prop} (f : β → α) (mk : α → β) (hf : ∀ a, f (mk a) = a) (h : Opens P t d Wf) : Opens P t (Kd.iso d f) (fun y => Wf (f y)) := ⟨h.sz, by
  intro H enc w base spare held fuel cs x hx
  obtain ⟨y, hy, hw⟩ := h.opens H enc w base spare held fuel cs x hx
  exact ⟨mk y, by show d.K w (f (mk y)) cs; rw [hf]; exact hy, by rw [hf]; exact hw⟩⟩
end
end Go.Proofs.Ytkoimmeghdbodaa.Take
namespace Go.Proofs.Ytkoimmeghdbodaa.Take
open Go.RowKit Go.Proofs.Ytkoimmeghdbodaa.Print Go.Proofs.YtkoimmeghdbodaaW.PrintWords
def W3 (x : Int) : Prop := (Lit.int .i64 x).wf = true
theorem o3 : Opens Try.prog 3 (Kd.int .i64) W3 := Opens.int (by kernel_rfl) (by kernel_rfl)
def W9 (x : ByteArray) : Prop := x.size ≤ maxLen
theorem o9 : Opens Try.prog 9 Kd.string W9 := Opens.string (by kernel_rfl) (by kernel_rfl)
def W94 (x : S94) : Prop := W3 x.f0 ∧ W3 x.f1
theorem o94 : Opens Try.prog 94 k94 W94 := Opens.iso _ (fun p => (⟨p.1, p.2⟩ : S94)) (fun _ => rfl) (Opens.struct Try.underlying94 (by kernel_rfl) (Tail.cons _ rfl rfl o3 (Tail.last _ rfl rfl o3)))
def W22 (x : (List S94)) : Prop := x.length ≤ maxLen ∧ ∀ y ∈ x, W94 y
theorem o22 : Opens Try.prog 22 (Kd.slice 94 k94) W22 := Opens.slice Try.underlying22 (by kernel_rfl) o94
def W24 (x : S24) : Prop := W3 x.f0 ∧ W3 x.f1 ∧ W22 x.f2
theorem o24 : Opens Try.prog 24 k24 W24 := Opens.iso _ (fun p => (⟨p.1, p.2.1, p.2.2⟩ : S24)) (fun _ => rfl) (Opens.struct Try.underlying24 (by kernel_rfl) (Tail.cons _ rfl rfl o3 (Tail.cons _ rfl rfl o3 (Tail.last _ rfl rfl o22))))
def W118 (x : (List S24)) : Prop := x.length ≤ maxLen ∧ ∀ y ∈ x, W24 y
theorem o118 : Opens Try.prog 118 (Kd.slice 24 k24) W118 := Opens.slice Try.underlying118 (by kernel_rfl) o24
def W120 (x : S120) : Prop := W9 x.f0 ∧ W118 x.f1
theorem o120 : Opens Try.prog 120 k120 W120 := Opens.iso _ (fun p => (⟨p.1, p.2⟩ : S120)) (fun _ => rfl) (Opens.struct Try.underlying120 (by kernel_rfl) (Tail.cons _ rfl rfl o9 (Tail.last _ rfl rfl o118)))
def W50 (x : (List S120)) : Prop := x.length ≤ maxLen ∧ ∀ y ∈ x, W120 y
theorem o50 : Opens Try.prog 50 (Kd.slice 120 k120) W50 := Opens.slice Try.underlying50 (by kernel_rfl) o120
structure S52 where
  f0 : Int
  f1 : (List S120)
def k52 : Kd S52 := Kd.iso (Kd.pair (Kd.int .i64) (Kd.slice 120 k120)) (fun x : S52 => (x.f0, x.f1))
theorem k52_open {w : World} {x : S52} {cs : List Value} (h : k52.K w x cs) : ∃ A1 c1, cs = [.int .i64 x.f0, .slice A1 x.f1.length c1] ∧ x.f1.length ≤ c1 ∧ Kd.C k120 w A1 x.f1.length x.f1 := by
  obtain ⟨_, _, rfl, rfl, ⟨A1, c1, rfl, l1, g1⟩⟩ := h
  exact ⟨A1, c1, rfl, l1, g1⟩
def W52 (x : S52) : Prop := W3 x.f0 ∧ W50 x.f1
theorem o52 : Opens Try.prog 52 k52 W52 := Opens.iso _ (fun p => (⟨p.1, p.2⟩ : S52)) (fun _ => rfl) (Opens.struct Try.underlying52 (by kernel_rfl) (Tail.cons _ rfl rfl o3 (Tail.last _ rfl rfl o50)))
end Go.Proofs.Ytkoimmeghdbodaa.Take
namespace Go.Proofs.Ytkoimmeghdbodaa.Pure
open Go.RowKit Go.Proofs.Ytkoimmeghdbodaa.Print Go.Proofs.YtkoimmeghdbodaaW.PrintWords Go.Proofs.YtkoimmeghdbodaaW.PrintLast
set_option linter.unusedSimpArgs false
set_option linter.unusedVariables false
theorem FnExactRootOk (n tx : Int) (l : List S120) (_ : (Lit.int .i64 n).wf = true) (hw : Take.W52 ⟨tx, l⟩) : ∃ k, laws_FnExactRootOk.f k n tx l = some true := by
  apply Ev.rounds
  obtain ⟨t, ht, _, hF⟩ := szRoot_ev tx l hw.2.1 (fun x hx => have h := hw.2.2 x hx; ⟨h.1, h.2.1, fun y hy => (h.2.2 y hy).2.2.1⟩) 1048576 (by omega) (by omega)
  unfold laws_FnExactRootOk.f
  refine Ev.bind ht (Ev.ite (fun h => Ev.ret rfl) (fun h => ?_))
  have hF := hF h
  have hM := hF.map
  refine Ev.bind (toRoot_ev tx l hF) (Ev.bind (specRoot_ev n tx _ hM) (Ev.bind (toRoot_ev tx l hF) (Ev.take (implRoot_some n tx _ hM) (Ev.neg (by simp) ?_))))
  exact Ev.bind (toRoot_ev tx l hF) (Ev.bind (eqRoot_ev tx _ hM) (Ev.pos rfl (Ev.ret rfl)))
end Go.Proofs.Ytkoimmeghdbodaa.Pure
namespace Go.Proofs.Ytkoimmeghdbodaa.fnExactRootOk
open Go.ChangeShapes Go.WideShapes Go.ChangeAt Go.RowKit Go.Proofs.Ytkoimmeghdbodaa.Print Go.Proofs.Ytkoimmeghdbodaa.Take Go.Proofs.YtkoimmeghdbodaaW.PrintWords
open Go.ChangeMaps (open_string shut_string)
set_option linter.unusedVariables false
theorem own : ownKnob Try.prog.godebug = none := by kernel_rfl
theorem laidOut : laidOutB Try.prog = true := by kernel_rfl
set_option maxRecDepth 100000 in
theorem lifted (os : Os) (started : os.Started) (H : Type) (enc : TypeId × Value → H) :
    ReturnsInHanded {} Try.checked os 7 .any (Rows.fnExactRootOkSpec.pre6 enc Try.prog Try.f7 Rows.fnExactRootOkRow.domain false) (Rows.fnExactRootOkSpec.post enc Try.prog Try.f7 false true false false) := by
  refine returnsInHanded_of_change_sized (C := Try.checked) own started (by kernel_rfl) Try.func7
    (ChangeSpec.witness6 (enc := enc) (C := Try.checked) false ⟨#[], #[.int .i64 0, .agg #[.int .i64 0, .slice none 0 0]], []⟩ 8 (by kernel_rfl) (by kernel_rfl) (by kernel_rfl) (by kernel_rfl)) ?_
  intro W base args ds gs before hval0 hW hcnd hsz0 _
  have hsz : (DataW.weightsEach Try.prog (Try.f7.params.toList ++ Rows.fnExactRootOkSpec.plain.varTypes Try.prog) (ds ++ gs)).all (· ≤ reachBytes) = true := hsz0
  have hval : ∀ (j : Nat) t v, Try.f7.params[j]? = some t → args[j]? = some v → Value.okWide Try.prog W .any base t v := hval0
  have hW' := hW
  obtain ⟨p, q, hA0, hV, rfl, hfz, hnd⟩ := hW
  have hA : DataW.TrodAll enc Try.prog W 0 (fun _ => true) true Try.f7.params.toList args.toList ds p := hA0
  rw [Try.params7] at hA hval hsz
  obtain ⟨v0, vs0, d0, ds0, p0, q0, hargs, rfl, rfl, h0, r0⟩ := trodAll_cons hA
  obtain ⟨v1, vs1, d1, ds1, p1, q1, rfl, rfl, rfl, h1, r1⟩ := trodAll_cons r0
  obtain ⟨rfl, rfl, rfl⟩ := trodAll_nil r1
  obtain rfl : args = #[v0, v1] := by cases args; simp_all
  obtain ⟨rfl, rfl⟩ := trodVars_none hV
  obtain ⟨a0, rfl, rfl, rfl, w0⟩ := open_int Try.underlying3 (hval 0 3 v0 rfl rfl) h0
  obtain ⟨b1, rfl, _⟩ := okWide_struct Try.underlying52 (hval 1 52 v1 rfl rfl)
  have k1 := h1
  have lt1 : ∀ x ∈ p1, x.block < W.heap.size := by obtain ⟨m, hm⟩ := k1; exact DataW.trod_lt m _ _ _ hm
  obtain ⟨n1, hf1⟩ := h1
  obtain ⟨y1, hk1, w1⟩ := o52.opens _ _ _ _ _ _ _ _ _ hf1
  obtain ⟨A1_1, c1_1, hcs1, hc1_1, hr1_1⟩ := k52_open hk1
  obtain rfl : b1 = #[.int .i64 y1.f0, .slice A1_1 y1.f1.length c1_1] := by cases b1; simpa [Value.cells] using hcs1
  clear hA0 hval0 hsz0 hsz
  obtain ⟨k, hk⟩ := Pure.FnExactRootOk a0 y1.f0 y1.f1 w0 w1
  refine (Print.laws_FnExactRootOk.calls (hr1_1 := hr1_1) (hc1_1 := hc1_1) (h := hk)).mono fun e W' ⟨he, bel0⟩ => ?_
  have bel := bel0
  subst he
  exact ⟨_, rfl, _, _, _, [], _, [], hW', trodAll_mk1 (shut_bool Try.underlying4 _), (trodAll_cons_mk (shut_int Try.underlying3 w0) (trodAll_cons_mk (Below.trod laidOut (by kernel_rfl) (of_decide_eq_true (by kernel_rfl)) k1 bel lt1) trodAll_mk0)), rfl, bel.frame _, fun h => by cases h⟩
theorem over : Rows.fnExactRootOkRow.holds Try.pinned (OpenSpec.ofChange Rows.fnExactRootOkSpec) :=
  OpenClaim.holds_of_wide 7 Try.f7 rfl rfl rfl rfl rfl rfl rfl ⟨rfl, rfl, rfl, rfl, rfl⟩ rfl rfl rfl rfl rfl (by kernel_rfl) Try.func7 (by kernel_rfl)
    (of_decide_eq_true (by kernel_rfl)) (by unfold Func.isWrapper; first | (rw [if_pos (by decide +kernel)]; kernel_rfl) | (rw [if_neg (by decide +kernel)]; exact ⟨rfl, rfl⟩))
    (fun os started H enc _ => lifted os started H enc)
theorem proved : Rows.FnExactRootOkSaid := over
#print axioms proved
end Go.Proofs.Ytkoimmeghdbodaa.fnExactRootOk
namespace Go.Proofs.Ytkoimmeghdbodaa
theorem fnExactRootOk_holds : Rows.FnExactRootOkSaid := fnExactRootOk.proved
end Go.Proofs.Ytkoimmeghdbodaa
