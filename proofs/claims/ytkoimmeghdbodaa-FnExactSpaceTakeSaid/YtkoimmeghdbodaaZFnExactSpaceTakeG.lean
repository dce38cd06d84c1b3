/- Proved, with what follows on it: the row of the law FnExactSpaceTake. Conditions: the row's alone. Texts of this session and words that the kit's print laid for this seat, merged and cut by shrink.py, a program of this session. -/
import Derived.Below
import Derived.ChangeOld
import Derived.OpenShut
import Derived.ProofKit
import Derived.ShutString
import Derived.SizedLaws
import Derived.WalkKit
import Derived.Test.YtkoimmeghdbodaaRows
import Derived.Test.YtkoimmeghdbodaaZFnExactSpaceTakeF
namespace Go.Proofs.Ytkoimmeghdbodaa.Print
open Go.RowKit Go.Proofs.YtkoimmeghdbodaaW.PrintWords Go.Proofs.YtkoimmeghdbodaaW.PrintLast Go.Proofs.YtkoimmeghdbodaaW.PrintMore
attribute [local go_sem] max2_int min2_int max_two min_two max_three min_three max_four min_four   -- for this text's walks alone
set_option linter.unusedVariables false
set_option linter.unusedSimpArgs false
mutual
def spec_l12Take.l0 : Nat → Int → List (S37) → Int → List (S37) → List Bool → Option ((List (S37)) × Bool)
 | 0, _, _, _, _, _ => none
 | k + 1, x0, x1, x2, x8, x9 => if (x8.length : Int) < x2 then (spec_l12Take.l1 k x0 x1 x2 x8 x9 (-1) 0 0 0 0) else (some (x8, true))
def spec_l12Take.l1 : Nat → Int → List (S37) → Int → List (S37) → List Bool → Int → Int → Int → Int → Int → Option ((List (S37)) × Bool)
 | 0, _, _, _, _, _, _, _, _, _, _ => none
 | k + 1, x0, x1, x2, x8, x9, x10, x11, x13, x689000, x689001 => if x13 < x0 then ((spec_l12Count.f k x1 x13).bind fun bt689 => (if 0 ≤ x13 then (if x13 < (x9.length : Int) then (if rdOf false x9 x13 = true then (spec_l12Take.l1 k x0 x1 x2 x8 x9 x10 x11 (wrap64 (x13 + 1)) x689000 x689001) else (if bt689.1 > x11 then (spec_l12Take.l1 k x0 x1 x2 x8 x9 x13 bt689.1 (wrap64 (x13 + 1)) bt689.2.1 bt689.2.2) else (spec_l12Take.l1 k x0 x1 x2 x8 x9 x10 x11 (wrap64 (x13 + 1)) x689000 x689001))) else (none)) else (none))) else (if x10 < 0 then (some ((([] : List (S37))), false)) else (if 0 ≤ x10 then (if x10 < (x9.length : Int) then (if x8.length < 8796093022208 then (spec_l12Take.l0 k x0 x1 x2 (x8 ++ [(⟨x689000, x689001⟩ : S37)]) (x9.set (x10 : Int).toNat true)) else (none)) else (none)) else (none)))
end
def spec_l12Take.f (k : Nat) (a0 : Int) (l1 : List (S37)) (a2 : Int) : Option ((List (S37)) × Bool) := if 0 ≤ a0 then (if (a0 : Int).toNat ≤ 281474976710656 then (spec_l12Take.l0 k a0 l1 a2 (([] : List (S37))) (List.replicate (a0 : Int).toNat false)) else (none)) else (none)
set_option maxHeartbeats 8000000 in
set_option maxRecDepth 100000 in
theorem spec_l12Take.calls (k : Nat) (a0 : Int) (A1 : Option Addr) (c1 : Nat) (l1 : List (S37)) (a2 : Int) (r1 : List (S37)) (r2 : Bool) (w : World) (hr1 : Kd.C k37 w A1 l1.length l1) (hc1 : l1.length ≤ c1) (h : spec_l12Take.f k a0 l1 a2 = some (r1, r2)) :
  Calls Try.prog 92 #[.int .i64 a0, .slice A1 l1.length c1, .int .i64 a2] w fun e w' => ∃ v0_ : Value, e = .returned (.tuple #[v0_, .bool r2]) ∧ Kd.R k37 37 w' w.heap.size (fun _ => True) v0_ r1 ∧ Below w.heap.size w w' := by
 have hu37 := Try.underlying37
 have HR1 := Az.mk hr1
 have HC1 := Az.mk hc1
 clear hr1 hc1
 have HB := Az.mk (Below.refl w.heap.size w)
 have H : (if 0 ≤ a0 then (if (a0 : Int).toNat ≤ 281474976710656 then (spec_l12Take.l0 k a0 l1 a2 (([] : List (S37))) (List.replicate (a0 : Int).toNat false)) else (none)) else (none)) = some (r1, r2) := h
 clear h
 obtain ⟨y682, hy682⟩ : ∃ y_ : List (S37), y_ = (([] : List (S37))) := ⟨_, rfl⟩
 replace H : (if 0 ≤ a0 then (if (a0 : Int).toNat ≤ 281474976710656 then (spec_l12Take.l0 k a0 l1 a2 y682 (List.replicate (a0 : Int).toNat false)) else (none)) else (none)) = some (r1, r2) := by first | (rw [hy682]; with_reducible exact H) | (have H2_ := (Option.bind_some _ _).symm.trans H; rw [hy682]; with_reducible exact H2_) | (have H2_ := (Option.bind_some _ _).symm.trans H; with_reducible exact H2_) | with_reducible exact H | (rw [hy682]; exact H) | exact H
 have Ny682 := Az.mk hy682
 clear hy682
 by_cases c4 : 0 ≤ a0
 ·rw [if_pos c4] at H
  have c4b0 := eq_true c4
  have c4b1 : decide (0 ≤ a0) = true := decide_eq_true c4
  clear c4
  by_cases c5 : (a0 : Int).toNat ≤ 281474976710656
  ·rw [if_pos c5] at H
   have c5b0 := eq_true c5
   have c5b1 : decide ((a0 : Int).toNat ≤ 281474976710656) = true := decide_eq_true c5
   clear c5
   obtain ⟨y685, hy685⟩ : ∃ y_ : List Bool, y_ = (List.replicate (a0 : Int).toNat false) := ⟨_, rfl⟩
   replace H : (spec_l12Take.l0 k a0 l1 a2 y682 y685) = some (r1, r2) := by first | (rw [hy685]; with_reducible exact H) | (have H2_ := (Option.bind_some _ _).symm.trans H; rw [hy685]; with_reducible exact H2_) | (have H2_ := (Option.bind_some _ _).symm.trans H; with_reducible exact H2_) | with_reducible exact H | (rw [hy685]; exact H) | exact H
   have Ny685 := Az.mk hy685
   clear hy685
   have H' := Az.mk H
   clear H
   go_enter Try.func92, Try.ntmps92
   go_wp2_with (first | ((with_reducible refine zqg (N := 16) rfl ?_); refine Kd.R_lit k37 _ 37 ?hg (N := 16) ?hd (xs := ([] : List (S37))) (inner := []) (ok := fun _ => True) (okp := fun _ => True) ?hr ?hp (fun _ hk => hk) trivial (Below.refl _ _) (Nat.le_refl _) (by simp) ?_; (case hd => rfl); (case hg => rfl); (case hr => first | (go_simp; done) | (go_simp; rfl)); (case hp => exact (Reps.none _ _)); intro v683 w6 ho7 hb hg_ hnew_; clear hg_ hnew_; (first | rw [← Ny682.out] at ho7 | (simp only [Int.reduceToNat] at ho7; rw [← Ny682.out] at ho7)); have n0_ := Az.mk (Kd.R_lower ho7 (below_size (by repeat (first | (with_reducible first | exact HB.out | apply zq2 | apply zq1 | apply zqd) | exact HB.out)))); have n1_ := Az.mk (below_step (by repeat (first | (with_reducible first | exact HB.out | apply zq2 | apply zq1 | apply zqd) | exact HB.out)) hb); clear HB; have HO684 := n0_; have HB := n1_; clear n0_ n1_; clear hb ho7) | ((with_reducible refine zqg (N := 18) rfl ?_); refine Kd.R_make Kd.bool _ 4 rfl (N := 18) rfl 139 _ _ rfl a0 rfl rfl Try.underlying139 (.bool false) 1 info4 rfl (by decide) (by omega) false (ok := fun _ => True) (okp := fun _ => True) rfl (fun _ hk => hk) trivial (of_decide_eq_true (by first | (with_reducible assumption) | assumption)) (Nat.le_trans (Nat.mul_le_mul_right _ (of_decide_eq_true (by first | (with_reducible assumption) | assumption) : a0.toNat ≤ 281474976710656)) (by omega)) (Below.refl _ _) (Nat.le_refl _) ?_; intro v686 w8 ho9 hb hg_ hnew_; clear hg_ hnew_; (first | rw [← Ny685.out] at ho9 | (simp only [Int.reduceToNat] at ho9; rw [← Ny685.out] at ho9)); have n0_ := Az.mk (Kd.R_below (by (with_reducible repeat (first | apply Kd.R_alloc | apply Kd.R_drewN | apply Kd.R_drew)); exact HO684.out) hb); have n1_ := Az.mk (Kd.R_lower ho9 (below_size (by repeat (first | (with_reducible first | exact HB.out | apply zq2 | apply zq1 | apply zqd) | exact HB.out)))); have n2_ := Az.mk (below_step (by repeat (first | (with_reducible first | exact HB.out | apply zq2 | apply zq1 | apply zqd) | exact HB.out)) hb); clear HO684; clear HB; have HO684 := n0_; have HO687 := n1_; have HB := n2_; clear n0_ n1_ n2_; clear hb ho9))
   go_loopg [8] k (fun kq v8 w' => ∃ (x8_1 : List (S37)) (x9_1 : List Bool), Az (spec_l12Take.l0 kq a0 l1 a2 x8_1 x9_1 = some (r1, r2)) ∧ Az (kq ≤ k) ∧ Az (Kd.R k37 37 w' w.heap.size (fun _ => True) v8 x8_1) ∧ Az (Kd.R Kd.bool 4 w' w.heap.size (fun _ => True) v686 x9_1) ∧ Az (Below w.heap.size w w'))
   case atStart => exact ⟨(y682), (y685), H', ⟨Nat.le_refl _⟩, ⟨by (with_reducible repeat (first | apply Kd.R_alloc | apply Kd.R_drewN | apply Kd.R_drew)); exact HO684.out⟩, ⟨by (with_reducible repeat (first | apply Kd.R_alloc | apply Kd.R_drewN | apply Kd.R_drew)); exact HO687.out⟩, ⟨by repeat (first | (with_reducible first | exact HB.out | apply zq2 | apply zq1 | apply zqd) | exact HB.out)⟩⟩
   case round =>
    clear H'
    try clear c1
    try clear p2
    try clear c4
    try clear c4b0
    try clear c4b1
    try clear c5
    try clear c5b0
    try clear c5b1
    try clear c9
    obtain ⟨x8_1, x9_1, HA, HK1, HO_8, HO_9, HB⟩ := hrel
    cases gk with
    | zero => exact absurd HA.out (by simp [spec_l12Take.l0])
    | succ k1 =>
     have H := HA.out
     clear HA
     simp only [spec_l12Take.l0] at H
     by_cases c10 : (x8_1.length : Int) < a2
     ·rw [if_pos c10] at H
      have c10b0 : decide ((x8_1.length : Int) < a2) = true := decide_eq_true c10
      clear c10
      have H' := Az.mk H
      clear H
      obtain ⟨Ao11, co11, eo11⟩ := Kd.R_slice HO_8.out
      subst eo11
      go_wp2_with (first | ((with_reducible refine zqg (N := 12) rfl ?_); refine zqb ?hg (N := 12) ?hd (cs := #[.int .i64 0, .int .i64 0]) (t := 37) ?hr ?_; (case hd => rfl); (case hg => rfl); (case hr => first | (go_simp; done) | (go_simp; rfl)); intro gb688 hg w12 hbox hb; have n0_ := Az.mk (Kd.R_below (Kd.R_elderB (by (with_reducible repeat (first | apply Kd.R_alloc | apply Kd.R_drewN | apply Kd.R_drew)); exact HO_8.out) gb688 (Nat.le_of_eq hg.symm)) hb); have n1_ := Az.mk (Kd.R_below (by (with_reducible repeat (first | apply Kd.R_alloc | apply Kd.R_drewN | apply Kd.R_drew)); exact HO_9.out) hb); have n2_ := Az.mk (below_step (by repeat (first | (with_reducible first | exact HB.out | apply zq2 | apply zq1 | apply zqd) | exact HB.out)) hb); have n3_ := Az.mk (hbox); have n4_ := Az.mk ((by rw [hg]; exact (below_size (by repeat (first | (with_reducible first | exact HB.out | apply zq2 | apply zq1 | apply zqd) | exact HB.out))) : w.heap.size ≤ gb688)); have n5_ := Az.mk ((by rw [hg]; exact (below_size (by repeat (first | (with_reducible first | exact HB.out | apply zq2 | apply zq1 | apply zqd) | exact HB.out))) : w.heap.size ≤ gb688)); clear HO_8; clear HO_9; clear HB; have HO_8 := n0_; have HO_9 := n1_; have HB := n2_; have BK688 := n3_; have GW688 := n4_; have GE688 := n5_; clear n0_ n1_ n2_ n3_ n4_ n5_; clear hb hbox hg; have hcz13_0 : w12.cell? ⟨gb688, 0, none⟩ = some (.int .i64 0) := (zq4 BK688.out 0).trans rfl; have hcz13_1 : w12.cell? ⟨gb688, 1, none⟩ = some (.int .i64 0) := (zq4 BK688.out 1).trans rfl; have hfz13_0 := zq5 BK688.out 0; have hfz13_1 := zq5 BK688.out 1))
      go_loopg [10, 11, 13] k1 (fun kq v10 v11 v13 w' => ∃ (x10_2 : Int) (x11_2 : Int) (x13_2 : Int) (x689000_2 : Int) (x689001_2 : Int), v10 = .int .i64 x10_2 ∧ v11 = .int .i64 x11_2 ∧ v13 = .int .i64 x13_2 ∧ Az (spec_l12Take.l1 kq a0 l1 a2 x8_1 x9_1 x10_2 x11_2 x13_2 x689000_2 x689001_2 = some (r1, r2)) ∧ Az (kq ≤ k1) ∧ Az (Kd.R k37 37 w' w.heap.size (fun k_ => k_ ≠ gb688) (.slice Ao11 x8_1.length co11) x8_1) ∧ Az (Kd.R Kd.bool 4 w' w.heap.size (fun _ => True) v686 x9_1) ∧ Az (w'.heap[gb688]? = some (.cells #[.int .i64 x689000_2, .int .i64 x689001_2] 37 (0, 0))) ∧ Az (Below w.heap.size w w'))
      case atStart => exact ⟨((-1)), (0), (0), (0), (0), (by first | rfl | (simp; done) | (simp [*]; done)), (by first | rfl | (simp; done) | (simp [*]; done)), (by first | rfl | (simp; done) | (simp [*]; done)), H', ⟨Nat.le_refl _⟩, ⟨by (with_reducible repeat (first | apply Kd.R_alloc | apply Kd.R_drewN | apply Kd.R_drew)); exact Kd.R_mono (Kd.R_far (p := ⟨gb688, 1, none⟩) (Kd.R_far (p := ⟨gb688, 0, none⟩) (Kd.R_mono HO_8.out (fun k_ hk => (⟨hk, hk.2⟩ : _ ∧ k_ ≠ gb688))) (fun _ hk => hk.2) (.int .i64 0)) (fun _ hk => hk.2) (.int .i64 0)) (fun _ hk => hk.1.2)⟩, ⟨by (with_reducible repeat (first | apply Kd.R_alloc | apply Kd.R_drewN | apply Kd.R_drew)); exact Kd.R_mono (Kd.R_far (p := ⟨gb688, 1, none⟩) (Kd.R_far (p := ⟨gb688, 0, none⟩) (Kd.R_types HO_9.out BK688.out (by decide)) (fun _ hk => hk.2) (.int .i64 0)) (fun _ hk => hk.2) (.int .i64 0)) (fun _ hk => trivial)⟩, ⟨by (with_reducible repeat (first | refine zq6 ?_ _ | refine zq8 ?_ | refine zq7 ?_ _)); refine blk_put (cs := #[.int .i64 0, .int .i64 0]) ?_ 1 _ rfl; (with_reducible repeat (first | refine zq6 ?_ _ | refine zq8 ?_ | refine zq7 ?_ _)); refine blk_put (cs := #[.int .i64 0, .int .i64 0]) ?_ 0 _ rfl; (with_reducible repeat (first | refine zq6 ?_ _ | refine zq8 ?_ | refine zq7 ?_ _)); exact BK688.out⟩, ⟨by repeat (first | (with_reducible first | exact HB.out | apply zq2 | apply zq1 | apply zqd | refine zq3 ?_ GE688.out) | exact HB.out)⟩⟩
      case round =>
       clear H'
       try clear c1
       try clear p2
       try clear c4
       try clear c4b0
       try clear c4b1
       try clear c5
       try clear c5b0
       try clear c5b1
       try clear c9
       try clear c10
       try clear c10b0
       try clear hcz13_0
       try clear hcz13_1
       try clear hfz13_0
       try clear hfz13_1
       try clear p2
       obtain ⟨x10_2, x11_2, x13_2, x689000_2, x689001_2, rfl, rfl, rfl, HA, HK2, HO_8, HO_9, BK688, HB⟩ := hrel
       cases gk with
       | zero => exact absurd HA.out (by simp [spec_l12Take.l1])
       | succ k2 =>
        have H := HA.out
        clear HA
        simp only [spec_l12Take.l1] at H
        by_cases c14 : x13_2 < a0
        ·rw [if_pos c14] at H
         have c14b0 : decide (x13_2 < a0) = true := decide_eq_true c14
         clear c14
         replace H := Option.bind_eq_some_iff.mp H
         obtain ⟨⟨t689, t690, t691⟩, A150, H⟩ := H
         replace H : (if 0 ≤ x13_2 then (if x13_2 < (x9_1.length : Int) then (if rdOf false x9_1 x13_2 = true then (spec_l12Take.l1 k2 a0 l1 a2 x8_1 x9_1 x10_2 x11_2 (wrap64 (x13_2 + 1)) x689000_2 x689001_2) else (if t689 > x11_2 then (spec_l12Take.l1 k2 a0 l1 a2 x8_1 x9_1 x13_2 t689 (wrap64 (x13_2 + 1)) t690 t691) else (spec_l12Take.l1 k2 a0 l1 a2 x8_1 x9_1 x10_2 x11_2 (wrap64 (x13_2 + 1)) x689000_2 x689001_2))) else (none)) else (none)) = some (r1, r2) := H
         have A15 := Az.mk A150
         clear A150
         by_cases c16 : 0 ≤ x13_2
         ·rw [if_pos c16] at H
          have c16b0 : decide (0 ≤ x13_2) = true := decide_eq_true c16
          clear c16
          by_cases c17 : x13_2 < (x9_1.length : Int)
          ·rw [if_pos c17] at H
           have c17b0 : decide (x13_2 < (x9_1.length : Int)) = true := decide_eq_true c17
           clear c17
           obtain ⟨bq18, hbq18⟩ : ∃ b_ : Bool, b_ = (rdOf false x9_1 x13_2) := ⟨_, rfl⟩
           replace H : (if bq18 = true then (spec_l12Take.l1 k2 a0 l1 a2 x8_1 x9_1 x10_2 x11_2 (wrap64 (x13_2 + 1)) x689000_2 x689001_2) else (if t689 > x11_2 then (spec_l12Take.l1 k2 a0 l1 a2 x8_1 x9_1 x13_2 t689 (wrap64 (x13_2 + 1)) t690 t691) else (spec_l12Take.l1 k2 a0 l1 a2 x8_1 x9_1 x10_2 x11_2 (wrap64 (x13_2 + 1)) x689000_2 x689001_2))) = some (r1, r2) := by rw [← hbq18] at H; exact H
           have Nbq18 := Az.mk hbq18
           clear hbq18
           by_cases c19 : bq18 = true
           ·subst c19
            have H1 : (spec_l12Take.l1 k2 a0 l1 a2 x8_1 x9_1 x10_2 x11_2 (wrap64 (x13_2 + 1)) x689000_2 x689001_2) = some (r1, r2) := by rw [if_pos rfl] at H; exact H
            clear H
            have H := H1
            clear H1
            have H' := Az.mk H
            clear H
            go_wp2_with (first | ((with_reducible refine gate_callee (f := 118) rfl ?_); refine zq9 (some 32) rfl rfl Try.func118 (by kernel_rfl) rfl #[.slice A1 l1.length c1, .int .i64 x13_2] rfl (by (try simp only [List.map_toArray, List.map_cons, List.map_nil]); first | done | rfl | (simp only [List.length_drop, List.length_take]; rfl)) ?_; (with_reducible refine (spec_l12Count.calls k2 _ _ l1 x13_2 t689 t690 t691 _ ?side1 ?side2 A15.out).mono ?_); (case side1 => repeat (first | exact (Kd.C_below HR1.out HB.out) | (with_reducible refine Kd.C_alloc ?_ _) | (with_reducible refine Kd.C_drewN ?_ _) | (with_reducible refine Kd.C_drew ?_))); (case side2 => exact HC1.out); rintro e w20 ⟨rfl, hb⟩; refine ⟨_, rfl, ?_⟩; have n0_ := Az.mk (Kd.R_below (by (with_reducible repeat (first | apply Kd.R_alloc | apply Kd.R_drewN | apply Kd.R_drew)); exact HO_8.out) hb); have n1_ := Az.mk (Kd.R_below (by (with_reducible repeat (first | apply Kd.R_alloc | apply Kd.R_drewN | apply Kd.R_drew)); exact HO_9.out) hb); have n2_ := Az.mk (blk_below (g := gb688) (o := .cells #[.int .i64 x689000_2, .int .i64 x689001_2] 37 (0, 0)) (by (with_reducible repeat (first | refine zq6 ?_ _ | refine zq8 ?_ | refine zq7 ?_ _)); exact BK688.out) hb); have n3_ := Az.mk (below_step (by repeat (first | (with_reducible first | exact HB.out | apply zq2 | apply zq1 | apply zqd | refine zq3 ?_ GE688.out) | exact HB.out)) hb); clear HO_8; clear HO_9; clear BK688; clear HB; have HO_8 := n0_; have HO_9 := n1_; have BK688 := n2_; have HB := n3_; clear n0_ n1_ n2_ n3_; (try clear hb); (try clear hb2); (try clear hk); (try clear hi)) | ((with_reducible refine zqg (N := 15) rfl ?_); refine zqb ?hg (N := 15) ?hd (cs := #[.int .i64 0, .int .i64 0]) (t := 37) ?hr ?_; (case hd => rfl); (case hg => rfl); (case hr => first | (go_simp; done) | (go_simp; rfl)); intro gb692 hg w21 hbox hb; have n0_ := Az.mk (Kd.R_below (Kd.R_elderB (by (with_reducible repeat (first | apply Kd.R_alloc | apply Kd.R_drewN | apply Kd.R_drew)); exact HO_8.out) gb692 (Nat.le_of_eq hg.symm)) hb); have n1_ := Az.mk (Kd.R_below (by (with_reducible repeat (first | apply Kd.R_alloc | apply Kd.R_drewN | apply Kd.R_drew)); exact HO_9.out) hb); have n2_ := Az.mk (blk_below (g := gb688) (o := .cells #[.int .i64 x689000_2, .int .i64 x689001_2] 37 (0, 0)) (by (with_reducible repeat (first | refine zq6 ?_ _ | refine zq8 ?_ | refine zq7 ?_ _)); exact BK688.out) hb); have n3_ := Az.mk (below_step (by repeat (first | (with_reducible first | exact HB.out | apply zq2 | apply zq1 | apply zqd | refine zq3 ?_ GE688.out) | exact HB.out)) hb); have n4_ := Az.mk (hbox); have n5_ := Az.mk ((by rw [hg]; exact (below_size (by repeat (first | (with_reducible first | exact HB.out | apply zq2 | apply zq1 | apply zqd | refine zq3 ?_ GE688.out) | exact HB.out))) : w.heap.size ≤ gb692)); have n6_ := Az.mk ((by rw [hg]; exact (below_size (by repeat (first | (with_reducible first | exact HB.out | apply zq2 | apply zq1 | apply zqd | refine zq3 ?_ GE688.out) | exact HB.out))) : w.heap.size ≤ gb692)); have n7_ := Az.mk ((by rw [hg]; exact Nat.ne_of_lt (blk_lt (g := gb688) (o := .cells #[.int .i64 x689000_2, .int .i64 x689001_2] 37 (0, 0)) (by (with_reducible repeat (first | refine zq6 ?_ _ | refine zq8 ?_ | refine zq7 ?_ _)); exact BK688.out)) : gb688 ≠ gb692)); have n8_ := Az.mk ((by rw [hg]; exact Nat.ne_of_gt (blk_lt (g := gb688) (o := .cells #[.int .i64 x689000_2, .int .i64 x689001_2] 37 (0, 0)) (by (with_reducible repeat (first | refine zq6 ?_ _ | refine zq8 ?_ | refine zq7 ?_ _)); exact BK688.out)) : gb692 ≠ gb688)); clear HO_8; clear HO_9; clear BK688; clear HB; have HO_8 := n0_; have HO_9 := n1_; have BK688 := n2_; have HB := n3_; have BK692 := n4_; have GW692 := n5_; have GE692 := n6_; have NB688_692 := n7_; have NB692_688 := n8_; clear n0_ n1_ n2_ n3_ n4_ n5_ n6_ n7_ n8_; clear hb hbox hg; have hnb22 := NB692_688.out; have hnc22 := NB688_692.out; have hcz23_0 : w21.cell? ⟨gb692, 0, none⟩ = some (.int .i64 0) := (zq4 BK692.out 0).trans rfl; have hcz23_1 : w21.cell? ⟨gb692, 1, none⟩ = some (.int .i64 0) := (zq4 BK692.out 1).trans rfl; have hfz23_0 := zq5 BK692.out 0; have hfz23_1 := zq5 BK692.out 1; obtain ⟨Ao24, co24, eo24⟩ := Kd.R_slice HO_9.out; subst eo24; have p693 : 0 ≤ (x13_2 : Int) := of_decide_eq_true (by first | (with_reducible assumption) | assumption); have q693 : x13_2 < (x9_1.length : Int) := of_decide_eq_true (by first | (with_reducible assumption) | assumption); obtain ⟨ad693, e693, hx693_0⟩ := Kd.at_bool (Kd.R_reads' HO_9.out).2.2 x13_2 p693 q693; (try rw [← Nbq18.out] at hx693_0); cases e693; have hn693_0 : ad693.block ≠ gb692 := Kd.own_blk (Kd.R_ne HO_9.out BK692.out (by decide)); have hn693_1 : ad693.block ≠ gb692 := Kd.own_blk (Kd.R_ne HO_9.out BK692.out (by decide)); replace hx693_0 := (cell_far (p := ⟨gb692, 0, none⟩) (by first | (rw [add_block]; exact hn693_0) | (show (Addr.add _ _).block ≠ _; rw [add_block]; exact hn693_0) | exact hn693_0) (.int .i64 t690)).trans hx693_0; replace hx693_0 := (cell_far (p := ⟨gb692, 1, none⟩) (by first | (rw [add_block]; exact hn693_1) | (show (Addr.add _ _).block ≠ _; rw [add_block]; exact hn693_1) | exact hn693_1) (.int .i64 t691)).trans hx693_0; clear hn693_0; clear hn693_1; replace p693 := eq_true p693; replace q693 := eq_true q693))
            go_roundg k2
            case measure => have := HK1.out; have := HK2.out; omega
            case rel => exact ⟨(x10_2), (x11_2), (wrap64 (x13_2 + 1)), (x689000_2), (x689001_2), (by first | rfl | (simp; done) | (simp [*]; done)), (by first | rfl | (simp; done) | (simp [*]; done)), (by first | rfl | (simp; done) | (simp [*]; done)), H', ⟨by have := HK1.out; have := HK2.out; omega⟩, ⟨by (with_reducible repeat (first | apply Kd.R_alloc | apply Kd.R_drewN | apply Kd.R_drew)); exact Kd.R_mono (Kd.R_far (p := ⟨gb692, 1, none⟩) (Kd.R_far (p := ⟨gb692, 0, none⟩) (Kd.R_mono HO_8.out (fun k_ hk => (⟨hk, hk.2⟩ : _ ∧ k_ ≠ gb692))) (fun _ hk => hk.2) (.int .i64 t690)) (fun _ hk => hk.2) (.int .i64 t691)) (fun _ hk => hk.1.1)⟩, ⟨by (with_reducible repeat (first | apply Kd.R_alloc | apply Kd.R_drewN | apply Kd.R_drew)); exact Kd.R_mono (Kd.R_far (p := ⟨gb692, 1, none⟩) (Kd.R_far (p := ⟨gb692, 0, none⟩) (Kd.R_types HO_9.out BK692.out (by decide)) (fun _ hk => hk.2) (.int .i64 t690)) (fun _ hk => hk.2) (.int .i64 t691)) (fun _ hk => trivial)⟩, ⟨by (with_reducible repeat (first | refine zq6 ?_ _ | refine zq8 ?_ | refine zq7 ?_ _)); refine blk_far ?_ NB688_692.out _; (with_reducible repeat (first | refine zq6 ?_ _ | refine zq8 ?_ | refine zq7 ?_ _)); refine blk_far ?_ NB688_692.out _; (with_reducible repeat (first | refine zq6 ?_ _ | refine zq8 ?_ | refine zq7 ?_ _)); exact BK688.out⟩, ⟨by repeat (first | (with_reducible first | exact HB.out | apply zq2 | apply zq1 | apply zqd | refine zq3 ?_ GE688.out | refine zq3 ?_ GE692.out) | exact HB.out)⟩⟩
           ·replace c19 := Bool.eq_false_iff.mpr c19
            subst c19
            have H1 : (if t689 > x11_2 then (spec_l12Take.l1 k2 a0 l1 a2 x8_1 x9_1 x13_2 t689 (wrap64 (x13_2 + 1)) t690 t691) else (spec_l12Take.l1 k2 a0 l1 a2 x8_1 x9_1 x10_2 x11_2 (wrap64 (x13_2 + 1)) x689000_2 x689001_2)) = some (r1, r2) := by rw [if_neg (show ¬ (false = true) by decide)] at H; exact H
            clear H
            have H := H1
            clear H1
            by_cases c25 : t689 > x11_2
            ·rw [if_pos c25] at H
             have c25b0 : decide (x11_2 < t689) = true := decide_eq_true c25
             clear c25
             have H' := Az.mk H
             clear H
             go_wp2_with (first | ((with_reducible refine gate_callee (f := 118) rfl ?_); refine zq9 (some 32) rfl rfl Try.func118 (by kernel_rfl) rfl #[.slice A1 l1.length c1, .int .i64 x13_2] rfl (by (try simp only [List.map_toArray, List.map_cons, List.map_nil]); first | done | rfl | (simp only [List.length_drop, List.length_take]; rfl)) ?_; (with_reducible refine (spec_l12Count.calls k2 _ _ l1 x13_2 t689 t690 t691 _ ?side1 ?side2 A15.out).mono ?_); (case side1 => repeat (first | exact (Kd.C_below HR1.out HB.out) | (with_reducible refine Kd.C_alloc ?_ _) | (with_reducible refine Kd.C_drewN ?_ _) | (with_reducible refine Kd.C_drew ?_))); (case side2 => exact HC1.out); rintro e w26 ⟨rfl, hb⟩; refine ⟨_, rfl, ?_⟩; have n0_ := Az.mk (Kd.R_below (by (with_reducible repeat (first | apply Kd.R_alloc | apply Kd.R_drewN | apply Kd.R_drew)); exact HO_8.out) hb); have n1_ := Az.mk (Kd.R_below (by (with_reducible repeat (first | apply Kd.R_alloc | apply Kd.R_drewN | apply Kd.R_drew)); exact HO_9.out) hb); have n2_ := Az.mk (blk_below (g := gb688) (o := .cells #[.int .i64 x689000_2, .int .i64 x689001_2] 37 (0, 0)) (by (with_reducible repeat (first | refine zq6 ?_ _ | refine zq8 ?_ | refine zq7 ?_ _)); exact BK688.out) hb); have n3_ := Az.mk (below_step (by repeat (first | (with_reducible first | exact HB.out | apply zq2 | apply zq1 | apply zqd | refine zq3 ?_ GE688.out) | exact HB.out)) hb); clear HO_8; clear HO_9; clear BK688; clear HB; have HO_8 := n0_; have HO_9 := n1_; have BK688 := n2_; have HB := n3_; clear n0_ n1_ n2_ n3_; (try clear hb); (try clear hb2); (try clear hk); (try clear hi)) | ((with_reducible refine zqg (N := 15) rfl ?_); refine zqb ?hg (N := 15) ?hd (cs := #[.int .i64 0, .int .i64 0]) (t := 37) ?hr ?_; (case hd => rfl); (case hg => rfl); (case hr => first | (go_simp; done) | (go_simp; rfl)); intro gb692 hg w27 hbox hb; have n0_ := Az.mk (Kd.R_below (Kd.R_elderB (by (with_reducible repeat (first | apply Kd.R_alloc | apply Kd.R_drewN | apply Kd.R_drew)); exact HO_8.out) gb692 (Nat.le_of_eq hg.symm)) hb); have n1_ := Az.mk (Kd.R_below (by (with_reducible repeat (first | apply Kd.R_alloc | apply Kd.R_drewN | apply Kd.R_drew)); exact HO_9.out) hb); have n2_ := Az.mk (blk_below (g := gb688) (o := .cells #[.int .i64 x689000_2, .int .i64 x689001_2] 37 (0, 0)) (by (with_reducible repeat (first | refine zq6 ?_ _ | refine zq8 ?_ | refine zq7 ?_ _)); exact BK688.out) hb); have n3_ := Az.mk (below_step (by repeat (first | (with_reducible first | exact HB.out | apply zq2 | apply zq1 | apply zqd | refine zq3 ?_ GE688.out) | exact HB.out)) hb); have n4_ := Az.mk (hbox); have n5_ := Az.mk ((by rw [hg]; exact (below_size (by repeat (first | (with_reducible first | exact HB.out | apply zq2 | apply zq1 | apply zqd | refine zq3 ?_ GE688.out) | exact HB.out))) : w.heap.size ≤ gb692)); have n6_ := Az.mk ((by rw [hg]; exact (below_size (by repeat (first | (with_reducible first | exact HB.out | apply zq2 | apply zq1 | apply zqd | refine zq3 ?_ GE688.out) | exact HB.out))) : w.heap.size ≤ gb692)); have n7_ := Az.mk ((by rw [hg]; exact Nat.ne_of_lt (blk_lt (g := gb688) (o := .cells #[.int .i64 x689000_2, .int .i64 x689001_2] 37 (0, 0)) (by (with_reducible repeat (first | refine zq6 ?_ _ | refine zq8 ?_ | refine zq7 ?_ _)); exact BK688.out)) : gb688 ≠ gb692)); have n8_ := Az.mk ((by rw [hg]; exact Nat.ne_of_gt (blk_lt (g := gb688) (o := .cells #[.int .i64 x689000_2, .int .i64 x689001_2] 37 (0, 0)) (by (with_reducible repeat (first | refine zq6 ?_ _ | refine zq8 ?_ | refine zq7 ?_ _)); exact BK688.out)) : gb692 ≠ gb688)); clear HO_8; clear HO_9; clear BK688; clear HB; have HO_8 := n0_; have HO_9 := n1_; have BK688 := n2_; have HB := n3_; have BK692 := n4_; have GW692 := n5_; have GE692 := n6_; have NB688_692 := n7_; have NB692_688 := n8_; clear n0_ n1_ n2_ n3_ n4_ n5_ n6_ n7_ n8_; clear hb hbox hg; have hnb28 := NB692_688.out; have hnc28 := NB688_692.out; have hcz29_0 : w27.cell? ⟨gb692, 0, none⟩ = some (.int .i64 0) := (zq4 BK692.out 0).trans rfl; have hcz29_1 : w27.cell? ⟨gb692, 1, none⟩ = some (.int .i64 0) := (zq4 BK692.out 1).trans rfl; have hfz29_0 := zq5 BK692.out 0; have hfz29_1 := zq5 BK692.out 1; obtain ⟨Ao30, co30, eo30⟩ := Kd.R_slice HO_9.out; subst eo30; have p693 : 0 ≤ (x13_2 : Int) := of_decide_eq_true (by first | (with_reducible assumption) | assumption); have q693 : x13_2 < (x9_1.length : Int) := of_decide_eq_true (by first | (with_reducible assumption) | assumption); obtain ⟨ad693, e693, hx693_0⟩ := Kd.at_bool (Kd.R_reads' HO_9.out).2.2 x13_2 p693 q693; (try rw [← Nbq18.out] at hx693_0); cases e693; have hn693_0 : ad693.block ≠ gb692 := Kd.own_blk (Kd.R_ne HO_9.out BK692.out (by decide)); have hn693_1 : ad693.block ≠ gb692 := Kd.own_blk (Kd.R_ne HO_9.out BK692.out (by decide)); replace hx693_0 := (cell_far (p := ⟨gb692, 0, none⟩) (by first | (rw [add_block]; exact hn693_0) | (show (Addr.add _ _).block ≠ _; rw [add_block]; exact hn693_0) | exact hn693_0) (.int .i64 t690)).trans hx693_0; replace hx693_0 := (cell_far (p := ⟨gb692, 1, none⟩) (by first | (rw [add_block]; exact hn693_1) | (show (Addr.add _ _).block ≠ _; rw [add_block]; exact hn693_1) | exact hn693_1) (.int .i64 t691)).trans hx693_0; clear hn693_0; clear hn693_1; replace p693 := eq_true p693; replace q693 := eq_true q693; have hcz31_0 : w27.cell? ⟨gb688, 0, none⟩ = some (.int .i64 x689000_2) := (zq4 BK688.out 0).trans rfl; have hcz31_1 : w27.cell? ⟨gb688, 1, none⟩ = some (.int .i64 x689001_2) := (zq4 BK688.out 1).trans rfl; have hfz31_0 := zq5 BK688.out 0; have hfz31_1 := zq5 BK688.out 1))
             go_roundg k2
             case measure => have := HK1.out; have := HK2.out; omega
             case rel => exact ⟨(x13_2), (t689), (wrap64 (x13_2 + 1)), (t690), (t691), (by first | rfl | (simp; done) | (simp [*]; done)), (by first | rfl | (simp; done) | (simp [*]; done)), (by first | rfl | (simp; done) | (simp [*]; done)), H', ⟨by have := HK1.out; have := HK2.out; omega⟩, ⟨by (with_reducible repeat (first | apply Kd.R_alloc | apply Kd.R_drewN | apply Kd.R_drew)); exact Kd.R_mono (Kd.R_far (p := ⟨gb688, 1, none⟩) (Kd.R_far (p := ⟨gb688, 0, none⟩) (Kd.R_far (p := ⟨gb692, 1, none⟩) (Kd.R_far (p := ⟨gb692, 0, none⟩) (Kd.R_mono (Kd.R_mono HO_8.out (fun k_ hk => (⟨hk, hk.2⟩ : _ ∧ k_ ≠ gb692))) (fun k_ hk => (⟨hk, hk.1.1⟩ : _ ∧ k_ ≠ gb688))) (fun _ hk => hk.1.2) (.int .i64 t690)) (fun _ hk => hk.1.2) (.int .i64 t691)) (fun _ hk => hk.2) (.int .i64 t690)) (fun _ hk => hk.2) (.int .i64 t691)) (fun _ hk => hk.1.1.1)⟩, ⟨by (with_reducible repeat (first | apply Kd.R_alloc | apply Kd.R_drewN | apply Kd.R_drew)); exact Kd.R_mono (Kd.R_far (p := ⟨gb688, 1, none⟩) (Kd.R_far (p := ⟨gb688, 0, none⟩) (Kd.R_far (p := ⟨gb692, 1, none⟩) (Kd.R_far (p := ⟨gb692, 0, none⟩) (Kd.R_types (Kd.R_types HO_9.out BK692.out (by decide)) BK688.out (by decide)) (fun _ hk => hk.1.2) (.int .i64 t690)) (fun _ hk => hk.1.2) (.int .i64 t691)) (fun _ hk => hk.2) (.int .i64 t690)) (fun _ hk => hk.2) (.int .i64 t691)) (fun _ hk => trivial)⟩, ⟨by (with_reducible repeat (first | refine zq6 ?_ _ | refine zq8 ?_ | refine zq7 ?_ _)); refine blk_put (cs := #[.int .i64 t690, .int .i64 x689001_2]) ?_ 1 _ rfl; (with_reducible repeat (first | refine zq6 ?_ _ | refine zq8 ?_ | refine zq7 ?_ _)); refine blk_put (cs := #[.int .i64 x689000_2, .int .i64 x689001_2]) ?_ 0 _ rfl; (with_reducible repeat (first | refine zq6 ?_ _ | refine zq8 ?_ | refine zq7 ?_ _)); refine blk_far ?_ NB688_692.out _; (with_reducible repeat (first | refine zq6 ?_ _ | refine zq8 ?_ | refine zq7 ?_ _)); refine blk_far ?_ NB688_692.out _; (with_reducible repeat (first | refine zq6 ?_ _ | refine zq8 ?_ | refine zq7 ?_ _)); exact BK688.out⟩, ⟨by repeat (first | (with_reducible first | exact HB.out | apply zq2 | apply zq1 | apply zqd | refine zq3 ?_ GE688.out | refine zq3 ?_ GE692.out) | exact HB.out)⟩⟩
            ·rw [if_neg c25] at H
             have c25b0 : decide (x11_2 < t689) = false := decide_eq_false c25
             clear c25
             have H' := Az.mk H
             clear H
             go_wp2_with (first | ((with_reducible refine gate_callee (f := 118) rfl ?_); refine zq9 (some 32) rfl rfl Try.func118 (by kernel_rfl) rfl #[.slice A1 l1.length c1, .int .i64 x13_2] rfl (by (try simp only [List.map_toArray, List.map_cons, List.map_nil]); first | done | rfl | (simp only [List.length_drop, List.length_take]; rfl)) ?_; (with_reducible refine (spec_l12Count.calls k2 _ _ l1 x13_2 t689 t690 t691 _ ?side1 ?side2 A15.out).mono ?_); (case side1 => repeat (first | exact (Kd.C_below HR1.out HB.out) | (with_reducible refine Kd.C_alloc ?_ _) | (with_reducible refine Kd.C_drewN ?_ _) | (with_reducible refine Kd.C_drew ?_))); (case side2 => exact HC1.out); rintro e w32 ⟨rfl, hb⟩; refine ⟨_, rfl, ?_⟩; have n0_ := Az.mk (Kd.R_below (by (with_reducible repeat (first | apply Kd.R_alloc | apply Kd.R_drewN | apply Kd.R_drew)); exact HO_8.out) hb); have n1_ := Az.mk (Kd.R_below (by (with_reducible repeat (first | apply Kd.R_alloc | apply Kd.R_drewN | apply Kd.R_drew)); exact HO_9.out) hb); have n2_ := Az.mk (blk_below (g := gb688) (o := .cells #[.int .i64 x689000_2, .int .i64 x689001_2] 37 (0, 0)) (by (with_reducible repeat (first | refine zq6 ?_ _ | refine zq8 ?_ | refine zq7 ?_ _)); exact BK688.out) hb); have n3_ := Az.mk (below_step (by repeat (first | (with_reducible first | exact HB.out | apply zq2 | apply zq1 | apply zqd | refine zq3 ?_ GE688.out) | exact HB.out)) hb); clear HO_8; clear HO_9; clear BK688; clear HB; have HO_8 := n0_; have HO_9 := n1_; have BK688 := n2_; have HB := n3_; clear n0_ n1_ n2_ n3_; (try clear hb); (try clear hb2); (try clear hk); (try clear hi)) | ((with_reducible refine zqg (N := 15) rfl ?_); refine zqb ?hg (N := 15) ?hd (cs := #[.int .i64 0, .int .i64 0]) (t := 37) ?hr ?_; (case hd => rfl); (case hg => rfl); (case hr => first | (go_simp; done) | (go_simp; rfl)); intro gb692 hg w33 hbox hb; have n0_ := Az.mk (Kd.R_below (Kd.R_elderB (by (with_reducible repeat (first | apply Kd.R_alloc | apply Kd.R_drewN | apply Kd.R_drew)); exact HO_8.out) gb692 (Nat.le_of_eq hg.symm)) hb); have n1_ := Az.mk (Kd.R_below (by (with_reducible repeat (first | apply Kd.R_alloc | apply Kd.R_drewN | apply Kd.R_drew)); exact HO_9.out) hb); have n2_ := Az.mk (blk_below (g := gb688) (o := .cells #[.int .i64 x689000_2, .int .i64 x689001_2] 37 (0, 0)) (by (with_reducible repeat (first | refine zq6 ?_ _ | refine zq8 ?_ | refine zq7 ?_ _)); exact BK688.out) hb); have n3_ := Az.mk (below_step (by repeat (first | (with_reducible first | exact HB.out | apply zq2 | apply zq1 | apply zqd | refine zq3 ?_ GE688.out) | exact HB.out)) hb); have n4_ := Az.mk (hbox); have n5_ := Az.mk ((by rw [hg]; exact (below_size (by repeat (first | (with_reducible first | exact HB.out | apply zq2 | apply zq1 | apply zqd | refine zq3 ?_ GE688.out) | exact HB.out))) : w.heap.size ≤ gb692)); have n6_ := Az.mk ((by rw [hg]; exact (below_size (by repeat (first | (with_reducible first | exact HB.out | apply zq2 | apply zq1 | apply zqd | refine zq3 ?_ GE688.out) | exact HB.out))) : w.heap.size ≤ gb692)); have n7_ := Az.mk ((by rw [hg]; exact Nat.ne_of_lt (blk_lt (g := gb688) (o := .cells #[.int .i64 x689000_2, .int .i64 x689001_2] 37 (0, 0)) (by (with_reducible repeat (first | refine zq6 ?_ _ | refine zq8 ?_ | refine zq7 ?_ _)); exact BK688.out)) : gb688 ≠ gb692)); have n8_ := Az.mk ((by rw [hg]; exact Nat.ne_of_gt (blk_lt (g := gb688) (o := .cells #[.int .i64 x689000_2, .int .i64 x689001_2] 37 (0, 0)) (by (with_reducible repeat (first | refine zq6 ?_ _ | refine zq8 ?_ | refine zq7 ?_ _)); exact BK688.out)) : gb692 ≠ gb688)); clear HO_8; clear HO_9; clear BK688; clear HB; have HO_8 := n0_; have HO_9 := n1_; have BK688 := n2_; have HB := n3_; have BK692 := n4_; have GW692 := n5_; have GE692 := n6_; have NB688_692 := n7_; have NB692_688 := n8_; clear n0_ n1_ n2_ n3_ n4_ n5_ n6_ n7_ n8_; clear hb hbox hg; have hnb34 := NB692_688.out; have hnc34 := NB688_692.out; have hcz35_0 : w33.cell? ⟨gb692, 0, none⟩ = some (.int .i64 0) := (zq4 BK692.out 0).trans rfl; have hcz35_1 : w33.cell? ⟨gb692, 1, none⟩ = some (.int .i64 0) := (zq4 BK692.out 1).trans rfl; have hfz35_0 := zq5 BK692.out 0; have hfz35_1 := zq5 BK692.out 1; obtain ⟨Ao36, co36, eo36⟩ := Kd.R_slice HO_9.out; subst eo36; have p693 : 0 ≤ (x13_2 : Int) := of_decide_eq_true (by first | (with_reducible assumption) | assumption); have q693 : x13_2 < (x9_1.length : Int) := of_decide_eq_true (by first | (with_reducible assumption) | assumption); obtain ⟨ad693, e693, hx693_0⟩ := Kd.at_bool (Kd.R_reads' HO_9.out).2.2 x13_2 p693 q693; (try rw [← Nbq18.out] at hx693_0); cases e693; have hn693_0 : ad693.block ≠ gb692 := Kd.own_blk (Kd.R_ne HO_9.out BK692.out (by decide)); have hn693_1 : ad693.block ≠ gb692 := Kd.own_blk (Kd.R_ne HO_9.out BK692.out (by decide)); replace hx693_0 := (cell_far (p := ⟨gb692, 0, none⟩) (by first | (rw [add_block]; exact hn693_0) | (show (Addr.add _ _).block ≠ _; rw [add_block]; exact hn693_0) | exact hn693_0) (.int .i64 t690)).trans hx693_0; replace hx693_0 := (cell_far (p := ⟨gb692, 1, none⟩) (by first | (rw [add_block]; exact hn693_1) | (show (Addr.add _ _).block ≠ _; rw [add_block]; exact hn693_1) | exact hn693_1) (.int .i64 t691)).trans hx693_0; clear hn693_0; clear hn693_1; replace p693 := eq_true p693; replace q693 := eq_true q693))
             go_roundg k2
             case measure => have := HK1.out; have := HK2.out; omega
             case rel => exact ⟨(x10_2), (x11_2), (wrap64 (x13_2 + 1)), (x689000_2), (x689001_2), (by first | rfl | (simp; done) | (simp [*]; done)), (by first | rfl | (simp; done) | (simp [*]; done)), (by first | rfl | (simp; done) | (simp [*]; done)), H', ⟨by have := HK1.out; have := HK2.out; omega⟩, ⟨by (with_reducible repeat (first | apply Kd.R_alloc | apply Kd.R_drewN | apply Kd.R_drew)); exact Kd.R_mono (Kd.R_far (p := ⟨gb692, 1, none⟩) (Kd.R_far (p := ⟨gb692, 0, none⟩) (Kd.R_mono HO_8.out (fun k_ hk => (⟨hk, hk.2⟩ : _ ∧ k_ ≠ gb692))) (fun _ hk => hk.2) (.int .i64 t690)) (fun _ hk => hk.2) (.int .i64 t691)) (fun _ hk => hk.1.1)⟩, ⟨by (with_reducible repeat (first | apply Kd.R_alloc | apply Kd.R_drewN | apply Kd.R_drew)); exact Kd.R_mono (Kd.R_far (p := ⟨gb692, 1, none⟩) (Kd.R_far (p := ⟨gb692, 0, none⟩) (Kd.R_types HO_9.out BK692.out (by decide)) (fun _ hk => hk.2) (.int .i64 t690)) (fun _ hk => hk.2) (.int .i64 t691)) (fun _ hk => trivial)⟩, ⟨by (with_reducible repeat (first | refine zq6 ?_ _ | refine zq8 ?_ | refine zq7 ?_ _)); refine blk_far ?_ NB688_692.out _; (with_reducible repeat (first | refine zq6 ?_ _ | refine zq8 ?_ | refine zq7 ?_ _)); refine blk_far ?_ NB688_692.out _; (with_reducible repeat (first | refine zq6 ?_ _ | refine zq8 ?_ | refine zq7 ?_ _)); exact BK688.out⟩, ⟨by repeat (first | (with_reducible first | exact HB.out | apply zq2 | apply zq1 | apply zqd | refine zq3 ?_ GE688.out | refine zq3 ?_ GE692.out) | exact HB.out)⟩⟩
          ·rw [if_neg c17] at H
           exact absurd H (by simp)
         ·rw [if_neg c16] at H
          exact absurd H (by simp)
        ·rw [if_neg c14] at H
         have c14b0 : decide (x13_2 < a0) = false := decide_eq_false c14
         clear c14
         by_cases c37 : x10_2 < 0
         ·rw [if_pos c37] at H
          have c37b0 : decide (x10_2 < 0) = true := decide_eq_true c37
          clear c37
          obtain ⟨y694, hy694⟩ : ∃ y_ : List (S37), y_ = (([] : List (S37))) := ⟨_, rfl⟩
          replace H : (some (y694, false)) = some (r1, r2) := by first | (rw [hy694]; with_reducible exact H) | (have H2_ := (Option.bind_some _ _).symm.trans H; rw [hy694]; with_reducible exact H2_) | (have H2_ := (Option.bind_some _ _).symm.trans H; with_reducible exact H2_) | with_reducible exact H | (rw [hy694]; exact H) | exact H
          have Ny694 := Az.mk hy694
          clear hy694
          simp only [Option.some.injEq, Prod.mk.injEq] at H
          obtain ⟨rfl, rfl⟩ := H
          go_wp2_with (first | ((with_reducible refine zqg (N := 50) rfl ?_); refine Kd.R_lit k37 _ 37 ?hg (N := 50) ?hd (xs := ([] : List (S37))) (inner := []) (ok := fun _ => True) (okp := fun _ => True) ?hr ?hp (fun _ hk => hk) trivial (Below.refl _ _) (Nat.le_refl _) (by simp) ?_; (case hd => rfl); (case hg => rfl); (case hr => first | (go_simp; done) | (go_simp; rfl)); (case hp => exact (Reps.none _ _)); intro v695 w38 ho39 hb hg_ hnew_; clear hg_ hnew_; (first | rw [← Ny694.out] at ho39 | (simp only [Int.reduceToNat] at ho39; rw [← Ny694.out] at ho39)); have n0_ := Az.mk (Kd.R_elder' (by (with_reducible repeat (first | apply Kd.R_alloc | apply Kd.R_drewN | apply Kd.R_drew)); exact HO_8.out) (Kd.R_base ho39) hb); have n1_ := Az.mk (Kd.R_below (by (with_reducible repeat (first | apply Kd.R_alloc | apply Kd.R_drewN | apply Kd.R_drew)); exact HO_9.out) hb); have n2_ := Az.mk (Kd.R_lower (Kd.R_newB (Kd.R_new' ho39 (Kd.R_lt (by (with_reducible repeat (first | apply Kd.R_alloc | apply Kd.R_drewN | apply Kd.R_drew)); exact HO_8.out))) (g := gb688) (o := .cells #[.int .i64 x689000_2, .int .i64 x689001_2] 37 (0, 0)) (by (with_reducible repeat (first | refine zq6 ?_ _ | refine zq8 ?_ | refine zq7 ?_ _)); exact BK688.out)) (below_size (by repeat (first | (with_reducible first | exact HB.out | apply zq2 | apply zq1 | apply zqd | refine zq3 ?_ GE688.out) | exact HB.out)))); have n3_ := Az.mk (blk_below (g := gb688) (o := .cells #[.int .i64 x689000_2, .int .i64 x689001_2] 37 (0, 0)) (by (with_reducible repeat (first | refine zq6 ?_ _ | refine zq8 ?_ | refine zq7 ?_ _)); exact BK688.out) hb); have n4_ := Az.mk (below_step (by repeat (first | (with_reducible first | exact HB.out | apply zq2 | apply zq1 | apply zqd | refine zq3 ?_ GE688.out) | exact HB.out)) hb); clear HO_8; clear HO_9; clear BK688; clear HB; have HO_8 := n0_; have HO_9 := n1_; have HO696 := n2_; have BK688 := n3_; have HB := n4_; clear n0_ n1_ n2_ n3_ n4_; clear hb ho39))
          go_ret2
          exact ⟨_, by first | rfl | (simp [errW_none, errW_some] <;> rfl) | (simp [*, errW_none, errW_some] <;> rfl), by (with_reducible repeat (first | apply Kd.R_alloc | apply Kd.R_drewN | apply Kd.R_drew)); exact Kd.R_mono HO696.out (fun _ hk => trivial), by repeat (first | (with_reducible first | exact HB.out | apply zq2 | apply zq1 | apply zqd | refine zq3 ?_ GE688.out) | exact HB.out)⟩
         ·rw [if_neg c37] at H
          have c37b0 : decide (x10_2 < 0) = false := decide_eq_false c37
          clear c37
          by_cases c40 : 0 ≤ x10_2
          ·rw [if_pos c40] at H
           have c40b0 : decide (0 ≤ x10_2) = true := decide_eq_true c40
           clear c40
           by_cases c41 : x10_2 < (x9_1.length : Int)
           ·rw [if_pos c41] at H
            have c41b0 : decide (x10_2 < (x9_1.length : Int)) = true := decide_eq_true c41
            clear c41
            obtain ⟨y697, hy697⟩ : ∃ y_ : List Bool, y_ = (x9_1.set (x10_2 : Int).toNat true) := ⟨_, rfl⟩
            replace H : (if x8_1.length < 8796093022208 then (spec_l12Take.l0 k2 a0 l1 a2 (x8_1 ++ [(⟨x689000_2, x689001_2⟩ : S37)]) y697) else (none)) = some (r1, r2) := by first | (rw [hy697]; with_reducible exact H) | (have H2_ := (Option.bind_some _ _).symm.trans H; rw [hy697]; with_reducible exact H2_) | (have H2_ := (Option.bind_some _ _).symm.trans H; with_reducible exact H2_) | with_reducible exact H | (rw [hy697]; exact H) | exact H
            have Ny697 := Az.mk hy697
            clear hy697
            by_cases c43 : x8_1.length < 8796093022208
            ·rw [if_pos c43] at H
             have LMc43 := Az.mk c43
             clear c43
             obtain ⟨y698, hy698⟩ : ∃ y_ : List (S37), y_ = (x8_1 ++ [(⟨x689000_2, x689001_2⟩ : S37)]) := ⟨_, rfl⟩
             replace H : (spec_l12Take.l0 k2 a0 l1 a2 y698 y697) = some (r1, r2) := by first | (rw [hy698]; with_reducible exact H) | (have H2_ := (Option.bind_some _ _).symm.trans H; rw [hy698]; with_reducible exact H2_) | (have H2_ := (Option.bind_some _ _).symm.trans H; with_reducible exact H2_) | with_reducible exact H | (rw [hy698]; exact H) | exact H
             have Ny698 := Az.mk hy698
             clear hy698
             have H' := Az.mk H
             clear H
             have p42 : 0 ≤ (x10_2 : Int) := of_decide_eq_true (by first | (with_reducible assumption) | assumption)
             have q42 : (x10_2 : Int) < ((x9_1.length : Int) : Int) := of_decide_eq_true (by first | (with_reducible assumption) | assumption)
             obtain ⟨go42, co42, eo42, gb42, gl42, cl42, HG42⟩ := Kd.R_form HO_9.out (by omega)
             (first | cases eo42 | (injection eo42 with ea_ en_ ec_; (first | subst ea_ | (injection ea_ with ea_; subst ea_)); subst ec_; clear en_))
             have GB42 := Az.mk gb42
             have GG42 := Az.mk HG42
             clear gb42 gl42 HG42
             obtain ⟨hx42_0, hf42_0⟩ := Kd.R_celln false HO_9.out (x10_2 : Int) p42 q42
             replace p42 := eq_true p42
             replace q42 := eq_true q42
             have HP44 := Kd.R_putg HO_9.out (x10_2 : Int) true
             go_wp2_with (first | ((with_reducible refine gate_store (t := 4) (p := 53) rfl ?_); refine store_event (t := 4) (p := 53) (v := ?vo_w45) (w1 := (wr.setCell ⟨go42, (x10_2 : Int).toNat, none⟩ (.bool true))) ?hg ?ho ?hn ?hr ?_; (case ho => rfl); (case hg => rfl); (case hn => rfl); (case hr => first | (go_simp; done) | (go_simp; rfl)); intro w45 hw; have hg : wr.grownBy w45 (some go42) := (by rw [hw]; exact HP44.2); have hp_ : Kd.R Kd.bool 4 w45 w.heap.size (fun _ => True) (.slice (some ⟨go42, 0, none⟩) x9_1.length co42) y697 := (by rw [hw, Ny697.out]; exact HP44.1); clear HP44; have n0_ := Az.mk (Kd.R_over' (v := (.slice (some ⟨go42, 0, none⟩) x9_1.length co42)) (by (with_reducible repeat (first | apply Kd.R_alloc | apply Kd.R_drewN | apply Kd.R_drew)); exact HO_8.out) (Kd.R_typed HO_9.out) (by decide) hg); have n1_ := Az.mk (hp_); have n2_ := Az.mk (blk_grown (g := gb688) (o := .cells #[.int .i64 x689000_2, .int .i64 x689001_2] 37 (0, 0)) (by (with_reducible repeat (first | refine zq6 ?_ _ | refine zq8 ?_ | refine zq7 ?_ _)); exact BK688.out) hg (Kd.R_ne HO_9.out BK688.out (by decide))); have n3_ := Az.mk ((by rw [hw]; exact zq3 (HB.out) GB42.out : Below w.heap.size w w45)); clear HO_8; clear HO_9; clear BK688; clear HB; have HO_8 := n0_; have HO_9 := n1_; have BK688 := n2_; have HB := n3_; clear n0_ n1_ n2_ n3_; clear hg hw hp_; have hcz46_0 : w45.cell? ⟨gb688, 0, none⟩ = some (.int .i64 x689000_2) := (zq4 BK688.out 0).trans rfl; have hcz46_1 : w45.cell? ⟨gb688, 1, none⟩ = some (.int .i64 x689001_2) := (zq4 BK688.out 1).trans rfl; have hfz46_0 := zq5 BK688.out 0; have hfz46_1 := zq5 BK688.out 1) | ((with_reducible refine gate_builtin (b := .append) (xs := #[.tmp 54, .tmp 56]) rfl ?_); at_builtin; refine Kd.R_append k37 (w0 := w) w.heap.size rfl (.tmp 54) (.tmp 56) 27 37 (.agg #[(.int .i64 0), (.int .i64 0)]) 16 rfl Try.underlying27 info37 rfl (by decide) (by omega) (.slice Ao11 x8_1.length co11) x8_1 (⟨x689000_2, x689001_2⟩ : S37) [.int .i64 x689000_2, .int .i64 x689001_2] (fun k_ => k_ ≠ gb688) (fun _ => False) rfl rfl ?aP (fun _ hk => hk.elim) ?aF ?aO ?aB ?aS ?aL ?_; (case aP => exact k37_mkM _ _ _ (⟨x689000_2, x689001_2⟩ : S37)); (case aB => exact (by repeat (first | (with_reducible first | exact HB.out | apply zq2 | apply zq1 | apply zqd | refine zq3 ?_ GE688.out) | exact HB.out))); (case aF => exact (fun k_ hk => Kd.freshB (g := gb688) (o := .cells #[.int .i64 x689000_2, .int .i64 x689001_2] 37 (0, 0)) (by (with_reducible repeat (first | refine zq6 ?_ _ | refine zq8 ?_ | refine zq7 ?_ _)); exact BK688.out) k_ hk)); (case aO => exact (by (with_reducible repeat (first | apply Kd.R_alloc | apply Kd.R_drewN | apply Kd.R_drew)); exact HO_8.out)); (case aS => exact (below_size (by repeat (first | (with_reducible first | exact HB.out | apply zq2 | apply zq1 | apply zqd | refine zq3 ?_ GE688.out) | exact HB.out)))); (case aL => have := LMc43.out; omega); intro v699 w47 ho hb hg hat; rw [← Ny698.out] at ho; have n0_ := Az.mk (Kd.R_over' (by (with_reducible repeat (first | apply Kd.R_alloc | apply Kd.R_drewN | apply Kd.R_drew)); exact HO_9.out) (Kd.R_typed (by (with_reducible repeat (first | apply Kd.R_alloc | apply Kd.R_drewN | apply Kd.R_drew)); exact HO_8.out)) (by decide) hg); have n1_ := Az.mk (blk_grown (g := gb688) (o := .cells #[.int .i64 x689000_2, .int .i64 x689001_2] 37 (0, 0)) (by (with_reducible repeat (first | refine zq6 ?_ _ | refine zq8 ?_ | refine zq7 ?_ _)); exact BK688.out) hg (Kd.R_away HO_8.out (fun _ hk => hk))); have n2_ := Az.mk (hb); have n3_ := Az.mk (ho); clear HO_9; clear BK688; clear HB; clear HO_8; have HO_9 := n0_; have BK688 := n1_; have HB := n2_; have HO700 := n3_; clear n0_ n1_ n2_ n3_; clear ho hb hg hat))
             go_roundg k2
             case measure => have := HK1.out; have := HK2.out; omega
             case rel => exact ⟨(y698), (y697), H', ⟨by have := HK1.out; have := HK2.out; omega⟩, ⟨by (with_reducible repeat (first | apply Kd.R_alloc | apply Kd.R_drewN | apply Kd.R_drew)); exact Kd.R_mono HO700.out (fun _ hk => trivial)⟩, ⟨by (with_reducible repeat (first | apply Kd.R_alloc | apply Kd.R_drewN | apply Kd.R_drew)); exact HO_9.out⟩, ⟨by repeat (first | (with_reducible first | exact HB.out | apply zq2 | apply zq1 | apply zqd | refine zq3 ?_ GE688.out) | exact HB.out)⟩⟩
            ·rw [if_neg c43] at H
             exact absurd H (by simp)
           ·rw [if_neg c41] at H
            exact absurd H (by simp)
          ·rw [if_neg c40] at H
           exact absurd H (by simp)
     ·rw [if_neg c10] at H
      have c10b0 : decide ((x8_1.length : Int) < a2) = false := decide_eq_false c10
      clear c10
      simp only [Option.some.injEq, Prod.mk.injEq] at H
      obtain ⟨rfl, rfl⟩ := H
      obtain ⟨Ao48, co48, eo48⟩ := Kd.R_slice HO_8.out
      subst eo48
      go_wp2
      go_ret2
      exact ⟨_, by first | rfl | (simp [errW_none, errW_some] <;> rfl) | (simp [*, errW_none, errW_some] <;> rfl), by (with_reducible repeat (first | apply Kd.R_alloc | apply Kd.R_drewN | apply Kd.R_drew)); exact HO_8.out, by repeat (first | (with_reducible first | exact HB.out | apply zq2 | apply zq1 | apply zqd) | exact HB.out)⟩
  ·rw [if_neg c5] at H
   exact absurd H (by simp)
 ·rw [if_neg c4] at H
  exact absurd H (by simp)
end Go.Proofs.Ytkoimmeghdbodaa.Print
namespace Go.Proofs.Ytkoimmeghdbodaa.Pure
open Go.RowKit Go.Lib Go.Sort Go.Proofs.Ytkoimmeghdbodaa.Print Go.Proofs.YtkoimmeghdbodaaW.PrintWords Go.Proofs.YtkoimmeghdbodaaW.PrintLast
set_option linter.unusedSimpArgs false
set_option linter.unusedVariables false
def onD (d : Int) (x : S37) : Bool := decide (x.f0 = d)
theorem count_l0 (l : List S37) (hl : l.length ≤ 1000) (d : Int) (q : Nat) : ∀ (i n : Nat) (a : S37), i + q = l.length → n ≤ i →
    Ev (fun k => spec_l12Count.l0 k l d (n : Int) (i : Int) a.f0 a.f1) (((n + ((l.drop i).filter (onD d)).length : Nat) : Int), (if n = 0 then ((l.drop i).filter (onD d)).getD 0 a else a).f0, (if n = 0 then ((l.drop i).filter (onD d)).getD 0 a else a).f1) := by
  induction q with
  | zero =>
    intro i n a hi hn
    refine Ev.next ?_
    simp only [spec_l12Count.l0]
    refine Ev.neg (by omega) (Ev.ret ?_)
    rw [List.drop_of_length_le (by omega)]
    simp
  | succ q ih =>
    intro i n a hi hn
    have e : wrap64 ((i : Int) + 1) = ((i + 1 : Nat) : Int) := by rw [wrap_ok (by omega)]; omega
    have e2 : wrap64 ((n : Int) + 1) = ((n + 1 : Nat) : Int) := by rw [wrap_ok (by omega)]; omega
    have hd := drop_getD l z37 i (by omega)
    refine Ev.next ?_
    simp only [spec_l12Count.l0, e, e2, rd37n]
    clear e e2
    refine Ev.pos (by omega) (Ev.pos (by omega) ?_)
    by_cases c : (l.getD i z37).f0 = d
    · have h1 := ih (i + 1) (n + 1)
      refine Ev.pos c ?_
      rw [hd, List.filter_cons_of_pos (by unfold onD; simpa using c)]
      by_cases c2 : n = 0
      · have h := h1 (l.getD i z37) (by omega) (by omega)
        rw [if_neg (by omega)] at h
        rw [if_pos c2, List.length_cons, List.getD_cons_zero, show n + ((List.filter (onD d) (l.drop (i + 1))).length + 1) = n + 1 + (List.filter (onD d) (l.drop (i + 1))).length by omega]
        exact Ev.pos (by omega) h
      · have h := h1 a (by omega) (by omega)
        rw [if_neg (by omega)] at h
        rw [if_neg c2, List.length_cons, show n + ((List.filter (onD d) (l.drop (i + 1))).length + 1) = n + 1 + (List.filter (onD d) (l.drop (i + 1))).length by omega]
        exact Ev.neg (by omega) h
    · refine Ev.neg c ?_
      rw [hd, List.filter_cons_of_neg (by unfold onD; simpa using c)]
      exact ih (i + 1) n a (by omega) (by omega)
theorem count_ev (l : List S37) (hl : l.length ≤ 1000) (d : Int) : Ev (fun k => spec_l12Count.f k l d) (((l.filter (onD d)).length : Int), ((l.filter (onD d)).getD 0 z37).f0, ((l.filter (onD d)).getD 0 z37).f1) := by
  have h := count_l0 l hl d l.length 0 0 z37 (Nat.zero_add _) (Nat.le_refl _)
  rw [if_pos rfl, List.drop_zero, Nat.zero_add] at h
  exact h
theorem freeP_f0 {U : List S37} {e s : Nat} {x : S37} (h : x ∈ freeP U e s) : x.f0 = (e : Int) := by
  unfold freeP at h
  have := (List.mem_filter.1 h).1
  obtain ⟨t, _, rfl⟩ := List.mem_map.1 this
  rfl
theorem flatF_on (U : List S37) (d : Nat) : ∀ nn, (flatF U nn).filter (onD (d : Int)) = if d < nn then freeP U d 12 else [] := by
  intro nn
  induction nn with
  | zero => simp [flatF]
  | succ nn ih =>
    rw [flatF_succ, List.filter_append, ih]
    by_cases h : d = nn
    · subst h
      rw [if_neg (by omega), if_pos (by omega), List.nil_append, List.filter_eq_self.2]
      intro x hx
      unfold onD
      exact decide_eq_true (freeP_f0 hx)
    · have e : (freeP U nn 12).filter (onD (d : Int)) = [] := by
        rw [List.filter_eq_nil_iff]
        intro x hx
        unfold onD
        rw [decide_eq_true_iff, freeP_f0 hx]
        omega
      rw [e, List.append_nil]
      by_cases h2 : d < nn
      · rw [if_pos h2, if_pos (by omega)]
      · rw [if_neg h2, if_neg (by omega)]
def sB (L : Nat → List S37) : Nat → Int × Int × S37
  | 0 => (-1, 0, z37)
  | d + 1 => if ((L d).length : Int) > (sB L d).2.1 then ((d : Int), ((L d).length : Int), (L d).getD 0 z37) else sB L d
def sE (L : Nat → List S37) (b : Nat) : Int × Int × S37 := if (L b).length = 0 then (-1, 0, z37) else ((b : Int), ((L b).length : Int), (L b).getD 0 z37)
theorem sE_len (L : Nat → List S37) (b : Nat) : (sE L b).2.1 = ((L b).length : Int) := by
  unfold sE
  by_cases h : (L b).length = 0
  · rw [if_pos h, h]; rfl
  · rw [if_neg h]
theorem sB_pos (L : Nat → List S37) (d : Nat) : 0 ≤ (sB L d).2.1 := by
  induction d with
  | zero => exact Int.le_refl _
  | succ d ih =>
    unfold sB
    by_cases h : ((L d).length : Int) > (sB L d).2.1
    · rw [if_pos h]; exact Int.natCast_nonneg _
    · rw [if_neg h]; exact ih
theorem sB_eq (L : Nat → List S37) (d : Nat) : sB L (d + 1) = sE L (bestOf L (d + 1)) := by
  induction d with
  | zero =>
    have e : bestOf L (0 + 1) = 0 := by
      show (if (L (bestOf L 0)).length < (L 0).length then 0 else bestOf L 0) = 0
      by_cases h : (L (bestOf L 0)).length < (L 0).length
      · rw [if_pos h]
      · rw [if_neg h]; rfl
    rw [e]
    show (if ((L 0).length : Int) > 0 then (((0 : Nat) : Int), ((L 0).length : Int), (L 0).getD 0 z37) else (-1, 0, z37)) = sE L 0
    unfold sE
    by_cases h : (L 0).length = 0
    · rw [if_neg (by omega), if_pos h]
    · rw [if_pos (by omega), if_neg h]
  | succ d ih =>
    show (if ((L (d + 1)).length : Int) > (sB L (d + 1)).2.1 then (((d + 1 : Nat) : Int), ((L (d + 1)).length : Int), (L (d + 1)).getD 0 z37) else sB L (d + 1)) = sE L (if (L (bestOf L (d + 1))).length < (L (d + 1)).length then d + 1 else bestOf L (d + 1))
    rw [ih, sE_len]
    by_cases h : (L (bestOf L (d + 1))).length < (L (d + 1)).length
    · rw [if_pos (by omega), if_pos h]
      unfold sE
      rw [if_neg (by omega)]
    · rw [if_neg (by omega), if_neg h]
def Lu (U : List S37) (nn : Nat) (us : List Bool) : Nat → List S37 := fun e => if e < nn then (if us.getD e false = true then [] else freeP U e 12) else []
theorem Lu_set (U : List S37) (nn : Nat) (us : List Bool) (hl : us.length = nn) (b : Nat) (hb : b < nn) : upd (Lu U nn us) b [] = Lu U nn (us.set b true) := by
  funext e
  unfold upd Lu
  by_cases c : e = b
  · subst c
    rw [if_pos rfl, if_pos hb, if_pos]
    simp [List.getD, List.getElem?_set, hl, hb]
  · rw [if_neg c]
    by_cases c2 : e < nn
    · rw [if_pos c2, if_pos c2]
      have : (us.set b true).getD e false = us.getD e false := by
        simp only [List.getD, List.getElem?_set]
        rw [if_neg (fun h => c h.symm)]
      rw [this]
    · rw [if_neg c2, if_neg c2]
theorem Lu_none (U : List S37) (nn : Nat) : Lu U nn (List.replicate nn false) = Lst U nn 0 := by
  funext e
  unfold Lu Lst
  by_cases c : e < nn
  · rw [if_pos c, if_pos c, if_neg]
    simp [List.getD, List.getElem?_replicate, c]
  · rw [if_neg c, if_neg c]
    by_cases c2 : e = nn
    · rw [if_pos c2]; simp [freeP]
    · rw [if_neg c2]
theorem rdB (us : List Bool) (d : Nat) : rdOf false us (d : Int) = us.getD d false := by simp [rdOf]
section
variable {U : List S37} {nn : Nat} {n cols : Int} (h4 : nn ≤ 4) (h1 : 1 ≤ nn) (hn : n = (nn : Int))
include h4 h1 hn
theorem take_l1 {out : List S37} {us : List Bool} (hus : us.length = nn) (hout : out.length ≤ 4) {r : List S37 × Bool}
    (h0 : (Lu U nn us (bestOf (Lu U nn us) nn)).length = 0 → r = ([], false))
    (K : (Lu U nn us (bestOf (Lu U nn us) nn)).length ≠ 0 → Ev (fun k => spec_l12Take.l0 k n (flatF U nn) cols (out ++ [(Lu U nn us (bestOf (Lu U nn us) nn)).getD 0 z37]) (us.set (bestOf (Lu U nn us) nn) true)) r) (q : Nat) :
    ∀ d : Nat, d + q = nn → Ev (fun k => spec_l12Take.l1 k n (flatF U nn) cols out us (sB (Lu U nn us) d).1 (sB (Lu U nn us) d).2.1 (d : Int) (sB (Lu U nn us) d).2.2.f0 (sB (Lu U nn us) d).2.2.f1) r := by
  induction q with
  | zero =>
    intro d hd
    have hd : d = nn := by omega
    subst hd
    have hb := bestOf_lt (Lu U d us) (d - 1)
    have hs := sB_eq (Lu U d us) (d - 1)
    rw [show d - 1 + 1 = d by omega] at hs hb
    rw [hs]
    refine Ev.next ?_
    simp only [spec_l12Take.l1]
    refine Ev.neg (by omega) ?_
    unfold sE
    by_cases hz : (Lu U d us (bestOf (Lu U d us) d)).length = 0
    · rw [if_pos hz]
      exact Ev.pos (by decide) (Ev.ret (h0 hz).symm)
    · rw [if_neg hz]
      exact Ev.neg (by omega) (Ev.pos (by omega) (Ev.pos (by omega) (Ev.pos (by omega) (K hz))))
  | succ q ih =>
    intro d hd
    have e : wrap64 ((d : Int) + 1) = ((d + 1 : Nat) : Int) := by rw [wrap_ok (by omega)]; omega
    have hih := ih (d + 1) (by omega)
    have hlen := flatF_len U nn
    have hc := count_ev (flatF U nn) (by omega) (d : Int)
    rw [flatF_on, if_pos (by omega)] at hc
    have hp := sB_pos (Lu U nn us) d
    refine Ev.next ?_
    simp only [spec_l12Take.l1, e, rdB]
    clear e
    refine Ev.pos (by omega) (Ev.bind hc (Ev.pos (by omega) (Ev.pos (by omega) ?_)))
    dsimp only
    unfold sB at hih
    by_cases cu : us.getD d false = true
    · have hL : Lu U nn us d = [] := by unfold Lu; rw [if_pos (by omega), if_pos cu]
      rw [hL, if_neg (by simp only [List.length_nil]; omega)] at hih
      exact Ev.pos cu hih
    · have hL : Lu U nn us d = freeP U d 12 := by unfold Lu; rw [if_pos (by omega), if_neg cu]
      refine Ev.neg cu ?_
      rw [hL] at hih
      by_cases cm : ((freeP U d 12).length : Int) > (sB (Lu U nn us) d).2.1
      · rw [if_pos cm] at hih
        exact Ev.pos cm hih
      · rw [if_neg cm] at hih
        exact Ev.neg cm hih
theorem take_l0 (cc : Nat) (hcc : cc ≤ nn) (hcols : cols = (cc : Int)) (c : Nat) : ∀ (out : List S37) (us : List Bool), us.length = nn → out.length + c = cc →
    Ev (fun k => spec_l12Take.l0 k n (flatF U nn) cols out us) (takeG nn c (Lu U nn us) out) := by
  induction c with
  | zero =>
    intro out us hus ho
    refine Ev.next ?_
    simp only [spec_l12Take.l0]
    exact Ev.neg (by omega) (Ev.ret rfl)
  | succ c ih =>
    intro out us hus ho
    have hb := bestOf_lt (Lu U nn us) (nn - 1)
    rw [show nn - 1 + 1 = nn by omega] at hb
    refine Ev.next ?_
    simp only [spec_l12Take.l0]
    refine Ev.pos (by omega) (take_l1 h4 h1 hn hus (by omega) (fun hz => ?_) (fun hz => ?_) nn 0 (Nat.zero_add _))
    · unfold takeG
      rw [if_pos hz]
    · unfold takeG
      rw [if_neg hz, Lu_set U nn us hus _ hb, show (Lu U nn us (bestOf (Lu U nn us) nn)).getD 0 z37 = (Lu U nn us (bestOf (Lu U nn us) nn)).getD 0 z37 from rfl]
      exact ih _ _ (by rw [List.length_set]; exact hus) (by rw [List.length_append, List.length_singleton]; omega)
theorem take_ev (cc : Nat) (hcc : cc ≤ nn) (hcols : cols = (cc : Int)) : Ev (fun k => spec_l12Take.f k n (flatF U nn) cols) (takeG nn cc (Lst U nn 0) []) := by
  have h := take_l0 (U := U) h4 h1 hn cc hcc hcols cc [] (List.replicate nn false) (by simp) (by simp)
  rw [Lu_none] at h
  unfold spec_l12Take.f
  have e : (n : Int).toNat = nn := by omega
  rw [e]
  exact Ev.pos (by omega) (Ev.pos (by omega) h)
end
end Go.Proofs.Ytkoimmeghdbodaa.Pure
namespace Go.Proofs.Ytkoimmeghdbodaa.Print
open Go.RowKit Go.Lib Go.Maps Go.WideMaps Go.Proofs.YtkoimmeghdbodaaW.PrintWords Go.Proofs.YtkoimmeghdbodaaW.PrintLast Go.Proofs.YtkoimmeghdbodaaW.PrintMore Go.Proofs.Ytkoimmeghdbodaa.Pure
set_option linter.unusedVariables false
set_option linter.unusedSimpArgs false
set_option maxHeartbeats 16000000 in
set_option maxRecDepth 100000 in
theorem sTake_call (n txa txb cols : Int) (Aa Ab : Option Addr) (ca cb : Nat) (la lb : List S65) (w : World)
    (hra : Kd.C k65 w Aa la.length la) (hca : la.length ≤ ca) (hFa : FitM la) (hrb : Kd.C k65 w Ab lb.length lb) (hcb : lb.length ≤ cb) (hFb : FitM lb) :
    Calls Try.prog 50 #[.int .i64 n, .agg #[.int .i64 txa, .slice Aa la.length ca], .agg #[.int .i64 txb, .slice Ab lb.length cb], .int .i64 cols] w fun e w' => ∃ v, e = .returned (.tuple #[v, .bool (takeI n txa txb cols la lb).2]) ∧ Kd.R k37 37 w' w.heap.size (fun _ => True) v (takeI n txa txb cols la lb).1 ∧ Below w.heap.size w w' := by
  have hu37 := Try.underlying37
  have hu57 := Try.underlying57
  have HROa := Az.mk (fun (W : World) (hb : Below w.heap.size w W) => sRoot_call n txa Aa ca la W (Kd.C_below hra hb) hca hFa)
  have HROb := Az.mk (fun (W : World) (hb : Below w.heap.size w W) => sRoot_call n txb Ab cb lb W (Kd.C_below hrb hb) hcb hFb)
  have H75 := Az.mk (fun W => spec_l6In.calls cols 1 n (decide (1 ≤ cols ∧ cols ≤ n)) W (l6In_eq _ _ _))
  have b1 : Blk (w.alloc (.cells #[.int .i64 txa, .slice Aa la.length ca] 57)) w.heap.size #[.int .i64 txa, .slice Aa la.length ca] 57 := Blk.made _ _ _
  have b2 := Blk.made (w.alloc (.cells #[.int .i64 txa, .slice Aa la.length ca] 57)) #[.int .i64 txb, .slice Ab lb.length cb] 57
  rw [World.size_alloc] at b2
  have b1 := b1.alloc (.cells #[.int .i64 txb, .slice Ab lb.length cb] 57)
  have hB0 : Below w.heap.size w ((w.alloc (.cells #[.int .i64 txa, .slice Aa la.length ca] 57)).alloc (.cells #[.int .i64 txb, .slice Ab lb.length cb] 57)) := by
    have h1 : Below w.heap.size w (w.alloc (.cells #[.int .i64 txa, .slice Aa la.length ca] 57)) := (Below.refl w.heap.size w).alloc (Nat.le_refl _) _
    exact h1.alloc (by simp) _
  have BA := Az.mk b1
  have BB := Az.mk b2
  have HB := Az.mk hB0
  have hca_0 := (BA.out.cell 0).trans rfl
  have hca_1 := (BA.out.cell 1).trans rfl
  have hcb_0 := (BB.out.cell 0).trans rfl
  have hcb_1 := (BB.out.cell 1).trans rfl
  have tk0 : True := trivial
  clear b1 b2 hB0
  have hsp : takeI n txa txb cols la lb = if (rootB n txa la && (rootB n txb lb && (decide (1 ≤ cols) && decide (cols ≤ n)))) = true then takeG n.toNat cols.toNat (Lst (rootPl n txa la ++ rootPl n txb lb) n.toNat 0) [] else ([], false) := rfl
  generalize takeI n txa txb cols la lb = res at hsp ⊢
  cases ea : rootB n txa la with
  | false =>
    rw [ea] at HROa hsp
    have HE : Az (res = ([], false)) := ⟨by rw [hsp]; rfl⟩
    clear ea H75
    clear hra hrb hca hcb hsp
    go_enter Try.func50, Try.ntmps50
    go_wp2_with (first | (go_at_call 36; have _tk := tk0; refine (HROa.out _ HB.out).mono ?_; rintro e w12 ⟨rfl, hb⟩; have BA2 := Az.mk (BA.out.below hb); have BB2 := Az.mk (BB.out.below hb); have HB2 := Az.mk (HB.out.trans (hb.mono HB.out.size)); clear BA BB HB hca_0 hca_1 hcb_0 hcb_1; have BA := BA2; have BB := BB2; have HB := HB2; clear BA2 BB2 HB2; have hca_0 := (BA.out.cell 0).trans rfl; have hca_1 := (BA.out.cell 1).trans rfl; have hcb_0 := (BB.out.cell 0).trans rfl; have hcb_1 := (BB.out.cell 1).trans rfl; clear hb; clear tk0 _tk; have tk1 : True := trivial) | ((with_reducible refine zqg (N := 26) rfl ?_); refine Kd.R_lit k37 _ 37 ?hg (N := 26) ?hd (xs := ([] : List S37)) (inner := []) (ok := fun _ => True) (okp := fun _ => True) ?hr ?hp (fun _ hk => hk) trivial (Below.refl _ _) (Nat.le_refl _) (by simp) ?_; (case hd => rfl); (case hg => rfl); (case hr => first | (go_simp; done) | (go_simp; rfl)); (case hp => exact (Reps.none _ _)); intro v26 w36 ho27 hb hg_ hnew_; have R26 := Az.mk ho27; have HB2 := Az.mk (HB.out.trans (hb.mono HB.out.size)); have HBZ := Az.mk HB.out.size; clear HB ho27 hb hg_ hnew_; have HB := HB2; clear HB2) | go_in)
    go_ret2
    exact ⟨v26, by rw [HE.out]; rfl, by rw [HE.out]; exact Kd.R_lower R26.out HBZ.out, HB.out⟩
  | true =>
    rw [ea] at HROa hsp
    cases eb : rootB n txb lb with
    | false =>
      rw [eb] at HROb hsp
      have HE : Az (res = ([], false)) := ⟨by rw [hsp]; rfl⟩
      clear ea eb H75
      clear hra hrb hca hcb hsp
      go_enter Try.func50, Try.ntmps50
      go_wp2_with (first | (go_at_call 36; have _tk := tk0; refine (HROa.out _ HB.out).mono ?_; rintro e w12 ⟨rfl, hb⟩; have BA2 := Az.mk (BA.out.below hb); have BB2 := Az.mk (BB.out.below hb); have HB2 := Az.mk (HB.out.trans (hb.mono HB.out.size)); clear BA BB HB hca_0 hca_1 hcb_0 hcb_1; have BA := BA2; have BB := BB2; have HB := HB2; clear BA2 BB2 HB2; have hca_0 := (BA.out.cell 0).trans rfl; have hca_1 := (BA.out.cell 1).trans rfl; have hcb_0 := (BB.out.cell 0).trans rfl; have hcb_1 := (BB.out.cell 1).trans rfl; clear hb; clear tk0 _tk; have tk1 : True := trivial) | (go_at_call 36; have _tk := tk1; refine (HROb.out _ HB.out).mono ?_; rintro e w17 ⟨rfl, hb⟩; have BA2 := Az.mk (BA.out.below hb); have BB2 := Az.mk (BB.out.below hb); have HB2 := Az.mk (HB.out.trans (hb.mono HB.out.size)); clear BA BB HB hca_0 hca_1 hcb_0 hcb_1; have BA := BA2; have BB := BB2; have HB := HB2; clear BA2 BB2 HB2; have hca_0 := (BA.out.cell 0).trans rfl; have hca_1 := (BA.out.cell 1).trans rfl; have hcb_0 := (BB.out.cell 0).trans rfl; have hcb_1 := (BB.out.cell 1).trans rfl; clear hb; clear tk1 _tk; have tk2 : True := trivial) | ((with_reducible refine zqg (N := 26) rfl ?_); refine Kd.R_lit k37 _ 37 ?hg (N := 26) ?hd (xs := ([] : List S37)) (inner := []) (ok := fun _ => True) (okp := fun _ => True) ?hr ?hp (fun _ hk => hk) trivial (Below.refl _ _) (Nat.le_refl _) (by simp) ?_; (case hd => rfl); (case hg => rfl); (case hr => first | (go_simp; done) | (go_simp; rfl)); (case hp => exact (Reps.none _ _)); intro v26 w36 ho27 hb hg_ hnew_; have R26 := Az.mk ho27; have HB2 := Az.mk (HB.out.trans (hb.mono HB.out.size)); have HBZ := Az.mk HB.out.size; clear HB ho27 hb hg_ hnew_; have HB := HB2; clear HB2) | go_in)
      go_ret2
      exact ⟨v26, by rw [HE.out]; rfl, by rw [HE.out]; exact Kd.R_lower R26.out HBZ.out, HB.out⟩
    | true =>
      rw [eb] at HROb hsp
      by_cases k1 : 1 ≤ cols ∧ cols ≤ n
      · rw [decide_eq_true k1] at H75
        rw [decide_eq_true k1.1, decide_eq_true k1.2] at hsp
        have sa := rootPl_small ea
        obtain ⟨nn, hnn⟩ := Int.eq_ofNat_of_zero_le (show 0 ≤ n by omega)
        obtain ⟨cc, hcc⟩ := Int.eq_ofNat_of_zero_le (show 0 ≤ cols by omega)
        have hnt : n.toNat = nn := by omega
        obtain ⟨U, hU⟩ : ∃ U, U = rootPl n txa la ++ rootPl n txb lb := ⟨_, rfl⟩
        obtain ⟨kf, hkf⟩ := Ev.rounds (free_ev ea eb hFa hFb)
        rw [hnt, ← hU] at hkf
        have HFR := Az.mk (fun (W : World) (hb : Below w.heap.size w W) => spec_l12Free.calls kf n txa Aa ca la txb Ab cb lb _ W (Kd.C_below hra hb) hca (Kd.C_below hrb hb) hcb hkf)
        obtain ⟨kt, hkt⟩ := Ev.rounds (take_ev (U := U) (by omega) (by omega) hnn cc (by omega) hcc)
        have HE : Az (res = takeG nn cc (Lst U nn 0) []) := ⟨by rw [hsp, hnt, ← hU, hcc]; rfl⟩
        have HTK := Az.mk (fun (A : Option Addr) (c : Nat) (W : World) (h : Kd.C k37 W A (flatF U nn).length (flatF U nn)) (hl : (flatF U nn).length ≤ c) => spec_l12Take.calls kt n A c (flatF U nn) cols (takeG nn cc (Lst U nn 0) []).1 (takeG nn cc (Lst U nn 0) []).2 W h hl hkt)
        clear hra hrb hca hcb hsp ea eb hkf hkt hFa hFb sa hnn hcc hnt hU k1
        go_enter Try.func50, Try.ntmps50
        go_wp2_with (first | (go_at_call 36; have _tk := tk0; refine (HROa.out _ HB.out).mono ?_; rintro e w12 ⟨rfl, hb⟩; have BA2 := Az.mk (BA.out.below hb); have BB2 := Az.mk (BB.out.below hb); have HB2 := Az.mk (HB.out.trans (hb.mono HB.out.size)); clear BA BB HB hca_0 hca_1 hcb_0 hcb_1; have BA := BA2; have BB := BB2; have HB := HB2; clear BA2 BB2 HB2; have hca_0 := (BA.out.cell 0).trans rfl; have hca_1 := (BA.out.cell 1).trans rfl; have hcb_0 := (BB.out.cell 0).trans rfl; have hcb_1 := (BB.out.cell 1).trans rfl; clear hb; clear tk0 _tk; have tk1 : True := trivial) | (go_at_call 36; have _tk := tk1; refine (HROb.out _ HB.out).mono ?_; rintro e w17 ⟨rfl, hb⟩; have BA2 := Az.mk (BA.out.below hb); have BB2 := Az.mk (BB.out.below hb); have HB2 := Az.mk (HB.out.trans (hb.mono HB.out.size)); clear BA BB HB hca_0 hca_1 hcb_0 hcb_1; have BA := BA2; have BB := BB2; have HB := HB2; clear BA2 BB2 HB2; have hca_0 := (BA.out.cell 0).trans rfl; have hca_1 := (BA.out.cell 1).trans rfl; have hcb_0 := (BB.out.cell 0).trans rfl; have hcb_1 := (BB.out.cell 1).trans rfl; clear hb; clear tk1 _tk; have tk2 : True := trivial) | (go_at_call 75; refine (H75.out _).mono ?_; rintro e w23 ⟨rfl, hd⟩; have hb := hd.below; have BA2 := Az.mk (BA.out.below hb); have BB2 := Az.mk (BB.out.below hb); have HB2 := Az.mk (HB.out.trans (hb.mono HB.out.size)); clear BA BB HB hca_0 hca_1 hcb_0 hcb_1; have BA := BA2; have BB := BB2; have HB := HB2; clear BA2 BB2 HB2; have hca_0 := (BA.out.cell 0).trans rfl; have hca_1 := (BA.out.cell 1).trans rfl; have hcb_0 := (BB.out.cell 0).trans rfl; have hcb_1 := (BB.out.cell 1).trans rfl; clear hb hd) | (go_at_call 91; refine (HFR.out _ HB.out).mono ?_; rintro e w31 ⟨v31, rfl, hR, hb⟩; obtain ⟨A31, c31, rfl, hl, hc⟩ := Kd.R_reads hR; have HR31 := Az.mk hc; have HL31 := Az.mk hl; have HB2 := Az.mk (HB.out.trans (hb.mono HB.out.size)); clear HB hR hb hl hc; have HB := HB2; clear HB2) | (go_at_call 92; refine (HTK.out A31 c31 _ HR31.out HL31.out).mono ?_; rintro e w33 ⟨v, rfl, hR, hb⟩; have R33 := Az.mk hR; have HBZ := Az.mk HB.out.size; have HB2 := Az.mk (HB.out.trans (hb.mono HB.out.size)); clear HB hR hb; have HB := HB2; clear HB2) | go_in)
        go_ret2
        exact ⟨v, by rw [HE.out]; rfl, by rw [HE.out]; exact Kd.R_lower R33.out HBZ.out, HB.out⟩
      · rw [decide_eq_false k1] at H75
        have HE : Az (res = ([], false)) := ⟨by
          rw [hsp]
          by_cases k2 : 1 ≤ cols
          · rw [decide_eq_false (show ¬ cols ≤ n from fun h => k1 ⟨k2, h⟩), Bool.and_false]; rfl
          · rw [decide_eq_false k2]; rfl⟩
        clear ea eb k1
        clear hra hrb hca hcb hsp
        go_enter Try.func50, Try.ntmps50
        go_wp2_with (first | (go_at_call 36; have _tk := tk0; refine (HROa.out _ HB.out).mono ?_; rintro e w12 ⟨rfl, hb⟩; have BA2 := Az.mk (BA.out.below hb); have BB2 := Az.mk (BB.out.below hb); have HB2 := Az.mk (HB.out.trans (hb.mono HB.out.size)); clear BA BB HB hca_0 hca_1 hcb_0 hcb_1; have BA := BA2; have BB := BB2; have HB := HB2; clear BA2 BB2 HB2; have hca_0 := (BA.out.cell 0).trans rfl; have hca_1 := (BA.out.cell 1).trans rfl; have hcb_0 := (BB.out.cell 0).trans rfl; have hcb_1 := (BB.out.cell 1).trans rfl; clear hb; clear tk0 _tk; have tk1 : True := trivial) | (go_at_call 36; have _tk := tk1; refine (HROb.out _ HB.out).mono ?_; rintro e w17 ⟨rfl, hb⟩; have BA2 := Az.mk (BA.out.below hb); have BB2 := Az.mk (BB.out.below hb); have HB2 := Az.mk (HB.out.trans (hb.mono HB.out.size)); clear BA BB HB hca_0 hca_1 hcb_0 hcb_1; have BA := BA2; have BB := BB2; have HB := HB2; clear BA2 BB2 HB2; have hca_0 := (BA.out.cell 0).trans rfl; have hca_1 := (BA.out.cell 1).trans rfl; have hcb_0 := (BB.out.cell 0).trans rfl; have hcb_1 := (BB.out.cell 1).trans rfl; clear hb; clear tk1 _tk; have tk2 : True := trivial) | (go_at_call 75; refine (H75.out _).mono ?_; rintro e w23 ⟨rfl, hd⟩; have hb := hd.below; have BA2 := Az.mk (BA.out.below hb); have BB2 := Az.mk (BB.out.below hb); have HB2 := Az.mk (HB.out.trans (hb.mono HB.out.size)); clear BA BB HB hca_0 hca_1 hcb_0 hcb_1; have BA := BA2; have BB := BB2; have HB := HB2; clear BA2 BB2 HB2; have hca_0 := (BA.out.cell 0).trans rfl; have hca_1 := (BA.out.cell 1).trans rfl; have hcb_0 := (BB.out.cell 0).trans rfl; have hcb_1 := (BB.out.cell 1).trans rfl; clear hb hd) | ((with_reducible refine zqg (N := 26) rfl ?_); refine Kd.R_lit k37 _ 37 ?hg (N := 26) ?hd (xs := ([] : List S37)) (inner := []) (ok := fun _ => True) (okp := fun _ => True) ?hr ?hp (fun _ hk => hk) trivial (Below.refl _ _) (Nat.le_refl _) (by simp) ?_; (case hd => rfl); (case hg => rfl); (case hr => first | (go_simp; done) | (go_simp; rfl)); (case hp => exact (Reps.none _ _)); intro v26 w36 ho27 hb hg_ hnew_; have R26 := Az.mk ho27; have HB2 := Az.mk (HB.out.trans (hb.mono HB.out.size)); have HBZ := Az.mk HB.out.size; clear HB ho27 hb hg_ hnew_; have HB := HB2; clear HB2) | go_in)
        go_ret2
        exact ⟨v26, by rw [HE.out]; rfl, by rw [HE.out]; exact Kd.R_lower R26.out HBZ.out, HB.out⟩
end Go.Proofs.Ytkoimmeghdbodaa.Print
namespace Go.Proofs.Ytkoimmeghdbodaa.Hd
open Go.RowKit Go.Proofs.Ytkoimmeghdbodaa.Print Go.Proofs.YtkoimmeghdbodaaW.PrintWords Go.Proofs.YtkoimmeghdbodaaW.PrintLast Go.Proofs.YtkoimmeghdbodaaW.PrintMore Go.Proofs.Ytkoimmeghdbodaa.Pure
set_option linter.unusedVariables false
set_option linter.unusedSimpArgs false
theorem takeG_len (nn : Nat) : ∀ (c : Nat) (L : Nat → List S37) (out : List S37), (takeG nn c L out).1.length ≤ out.length + c := by
  intro c
  induction c with
  | zero =>
    intro L out
    exact Nat.le_refl _
  | succ c ih =>
    intro L out
    unfold takeG
    by_cases h : (L (bestOf L nn)).length = 0
    · rw [if_pos h]
      exact Nat.zero_le _
    · rw [if_neg h]
      have := ih (upd L (bestOf L nn) []) (out ++ [(L (bestOf L nn)).getD 0 z37])
      rw [List.length_append, List.length_singleton] at this
      omega
theorem takeI_len (n txa txb cols : Int) (la lb : List S65) {rl : List S37} {rb : Bool} (h : takeI n txa txb cols la lb = (rl, rb)) : rl.length ≤ 1048576 := by
  have e : rl = (takeI n txa txb cols la lb).1 := by rw [h]
  rw [e]
  unfold takeI
  by_cases c : (rootB n txa la && (rootB n txb lb && (decide (1 ≤ cols) && decide (cols ≤ n)))) = true
  · rw [if_pos c]
    have hl := takeG_len n.toNat cols.toNat (Lst (rootPl n txa la ++ rootPl n txb lb) n.toNat 0) []
    simp only [Bool.and_eq_true, decide_eq_true_iff] at c
    have := rootPl_small c.1
    rw [List.length_nil] at hl
    omega
  · rw [if_neg c]
    exact Nat.zero_le _
theorem specTk_call (n txa txb cols : Int) {Da Db : List S65} {rl : List S37} {rb : Bool} (hE : takeI n txa txb cols Da Db = (rl, rb)) (hFa : FitM Da) (hFb : FitM Db) {w : World} {Ma Mb : AC} (ha : RdR w Ma Da) (hb : RdR w Mb Db) {B : Nat} (hB : B ≤ w.heap.size) :
    Calls Try.prog 50 #[.int .i64 n, .agg (cR Ma (txa, Da)), .agg (cR Mb (txb, Db)), .int .i64 cols] w fun e w' => ∃ M', e = .returned (.tuple #[pV M' rl, .bool rb]) ∧ OwP w' B w.heap.size w'.heap.size M' rl ∧ Below w.heap.size w w' := by
  refine (sTake_call n txa txb cols Ma.1 Mb.1 Ma.2 Mb.2 Da Db w ha.2 ha.1 hFa hb.2 hb.1 hFb).mono ?_
  rintro e w' ⟨v, rfl, hR, hb⟩
  rw [hE] at hR
  obtain ⟨M', rfl, hO⟩ := owP_of hB hR
  exact ⟨M', by rw [hE], hO, hb⟩
theorem implTk_call (n txa txb cols : Int) {Da Db : List S65} {rl : List S37} {rb : Bool} (hE : takeI n txa txb cols Da Db = (rl, rb)) (hFa : FitM Da) (hFb : FitM Db) {w : World} {Ma Mb : AC} (ha : RdR w Ma Da) (hb : RdR w Mb Db) {B : Nat} (hB : B ≤ w.heap.size) :
    Calls Try.prog 51 #[.int .i64 n, .agg (cR Ma (txa, Da)), .agg (cR Mb (txb, Db)), .int .i64 cols] w fun e w' => ∃ M', e = .returned (.tuple #[pV M' rl, .bool rb]) ∧ OwP w' B w.heap.size w'.heap.size M' rl ∧ Below w.heap.size w w' := by
  refine (spaceTake_call n txa txb cols Ma.1 Mb.1 Ma.2 Mb.2 Da Db w ha.2 ha.1 hFa.places hb.2 hb.1 hFb.places).mono ?_
  rintro e w' ⟨v, rfl, hR, hb⟩
  rw [hE] at hR
  obtain ⟨M', rfl, hO⟩ := owP_of hB hR
  exact ⟨M', by rw [hE], hO, hb⟩
end Go.Proofs.Ytkoimmeghdbodaa.Hd
namespace Go.Proofs.Ytkoimmeghdbodaa.Hd
open Go.RowKit Go.Proofs.Ytkoimmeghdbodaa.Print Go.Proofs.YtkoimmeghdbodaaW.PrintWords Go.Proofs.YtkoimmeghdbodaaW.PrintLast Go.Proofs.YtkoimmeghdbodaaW.PrintMore Go.Proofs.Ytkoimmeghdbodaa.Pure
set_option linter.unusedVariables false
set_option linter.unusedSimpArgs false
set_option maxHeartbeats 16000000 in
set_option maxRecDepth 100000 in
theorem law_FnExactSpaceTake (n txa txb : Int) (cols : Int) (ma mb : AC) (la lb : List S120) (w : World) (hra : Kd.C k120 w ma.1 la.length la) (hca : la.length ≤ ma.2) (hwa : Take.W52 ⟨txa, la⟩) (hrb : Kd.C k120 w mb.1 lb.length lb) (hcb : lb.length ≤ mb.2) (hwb : Take.W52 ⟨txb, lb⟩) : Calls Try.prog 13 #[.int .i64 n, .agg (cA ma (txa, la)), .agg (cA mb (txb, lb)), .int .i64 cols] w fun e w' => e = .returned (.bool true) ∧ Below w.heap.size w w' := by
 have hs57 := size57
 have hs52 := size52
 have HRa := Az.mk hra
 have HCa := Az.mk hca
 have HRb := Az.mk hrb
 have HCb := Az.mk hcb
 have HWb := Az.mk hwb
 obtain ⟨ta, hta, hta1, hfit⟩ := szRoot_ev txa la hwa.2.1 (fun x hx => have h := hwa.2.2 x hx; ⟨h.1, h.2.1, fun y hy => (h.2.2 y hy).2.2.1⟩) 1048576 (by omega) (by omega)
 obtain ⟨ka, hka⟩ := Ev.rounds hta
 have HSZa := Az.mk (fun (W : World) (h : Kd.C k120 W ma.1 la.length la) => laws_szRoot.calls ka txa ma.1 ma.2 la 1048576 ta W h hca hka)
 have HT1 := Az.mk hta1
 clear hra hrb hwa hwb hta hka hca hcb hta1
 by_cases c_ta : ta < 0
 ·have l_ta : decide (ta < 0) = true := decide_eq_true c_ta
  clear c_ta
  have H := Az.mk (Hd.start w)
  have tk0 : True := trivial
  go_enter Try.func13, Try.ntmps13
  go_wp2_with (first | ((with_reducible refine zqg (N := 5) rfl ?_); refine H.out.bx rfl ((cA ma (txa, la))) 52 ?hr ?_; (case hr => first | (go_simp; done) | (go_simp; rfl)); intro g5 w5 H1; clear H; have H := H1; clear H1; (try simp only [Act.put, zs1, zs2, zs3])) | ((with_reducible refine zqg (N := 6) rfl ?_); refine H.out.bx rfl ((cA mb (txb, lb))) 52 ?hr ?_; (case hr => first | (go_simp; done) | (go_simp; rfl)); intro g6 w6 H1; clear H; have H := H1; clear H1; (try simp only [Act.put, zs1, zs2, zs3])) | ((with_reducible refine zqg (N := 21) rfl ?_); refine H.out.ld_row 1 rfl rfl rfl rfl Try.underlying52 rfl hs52 ?_; (try simp only [Act.put, zs1, zs2, zs3])) | (go_at_call 35; have _tk := tk0; refine (HSZa.out _ (H.out.C HRa.out)).mono ?_; rintro e w23 ⟨rfl, hb⟩; have H1 := Az.mk (H.out.step hb); clear hb; clear H; have H := H1; clear H1; clear tk0 _tk; have tk1 : True := trivial))
  go_ret
  exact ⟨rfl, H.out.bel⟩
 ·have l_ta : decide (ta < 0) = false := decide_eq_false c_ta
  have HFa := Az.mk (hfit c_ta)
  have HMa := Az.mk HFa.out.map
  obtain ⟨tb, htb, _, hfitb⟩ := szRoot_ev txb lb HWb.out.2.1 (fun x hx => have h := HWb.out.2.2 x hx; ⟨h.1, h.2.1, fun y hy => (h.2.2 y hy).2.2.1⟩) ta (by omega) HT1.out
  obtain ⟨kb, hkb⟩ := Ev.rounds htb
  have HSZb := Az.mk (fun (W : World) (h : Kd.C k120 W mb.1 lb.length lb) => laws_szRoot.calls kb txb mb.1 mb.2 lb ta tb W h HCb.out hkb)
  clear htb hkb hfit
  clear c_ta
  by_cases c_tb : tb < 0
  ·have l_tb : decide (tb < 0) = true := decide_eq_true c_tb
   clear c_tb
   have H := Az.mk (Hd.start w)
   have tk0 : True := trivial
   go_enter Try.func13, Try.ntmps13
   go_wp2_with (first | ((with_reducible refine zqg (N := 5) rfl ?_); refine H.out.bx rfl ((cA ma (txa, la))) 52 ?hr ?_; (case hr => first | (go_simp; done) | (go_simp; rfl)); intro g5 w5 H1; clear H; have H := H1; clear H1; (try simp only [Act.put, zs1, zs2, zs3])) | ((with_reducible refine zqg (N := 6) rfl ?_); refine H.out.bx rfl ((cA mb (txb, lb))) 52 ?hr ?_; (case hr => first | (go_simp; done) | (go_simp; rfl)); intro g6 w6 H1; clear H; have H := H1; clear H1; (try simp only [Act.put, zs1, zs2, zs3])) | ((with_reducible refine zqg (N := 21) rfl ?_); refine H.out.ld_row 1 rfl rfl rfl rfl Try.underlying52 rfl hs52 ?_; (try simp only [Act.put, zs1, zs2, zs3])) | (go_at_call 35; have _tk := tk0; refine (HSZa.out _ (H.out.C HRa.out)).mono ?_; rintro e w23 ⟨rfl, hb⟩; have H1 := Az.mk (H.out.step hb); clear hb; clear H; have H := H1; clear H1; clear tk0 _tk; have tk1 : True := trivial) | ((with_reducible refine zqg (N := 26) rfl ?_); refine H.out.ld_row 0 rfl rfl rfl rfl Try.underlying52 rfl hs52 ?_; (try simp only [Act.put, zs1, zs2, zs3])) | (go_at_call 35; have _tk := tk1; refine (HSZb.out _ (H.out.C HRb.out)).mono ?_; rintro e w28 ⟨rfl, hb⟩; have H1 := Az.mk (H.out.step hb); clear hb; clear H; have H := H1; clear H1; clear tk1 _tk; have tk2 : True := trivial))
   go_ret
   exact ⟨rfl, H.out.bel⟩
  ·have l_tb : decide (tb < 0) = false := decide_eq_false c_tb
   have HFb := Az.mk (hfitb c_tb)
   have HMb := Az.mk HFb.out.map
   obtain ⟨rl, rb, hres⟩ : ∃ rl rb, takeI n txa txb cols (la.map voC) (lb.map voC) = (rl, rb) := ⟨_, _, rfl⟩
   have HLN := Az.mk (takeI_len n txa txb cols (la.map voC) (lb.map voC) hres)
   have HRES := Az.mk hres
   have hbn : (rb != rb) = false := bne_self_eq_false _
   clear hfitb hres
   clear c_tb
   have H := Az.mk (Hd.start w)
   have tk0 : True := trivial
   go_enter Try.func13, Try.ntmps13
   go_wp2_with (first | ((with_reducible refine zqg (N := 5) rfl ?_); refine H.out.bx rfl ((cA ma (txa, la))) 52 ?hr ?_; (case hr => first | (go_simp; done) | (go_simp; rfl)); intro g5 w5 H1; clear H; have H := H1; clear H1; (try simp only [Act.put, zs1, zs2, zs3])) | ((with_reducible refine zqg (N := 6) rfl ?_); refine H.out.bx rfl ((cA mb (txb, lb))) 52 ?hr ?_; (case hr => first | (go_simp; done) | (go_simp; rfl)); intro g6 w6 H1; clear H; have H := H1; clear H1; (try simp only [Act.put, zs1, zs2, zs3])) | ((with_reducible refine zqg (N := 21) rfl ?_); refine H.out.ld_row 1 rfl rfl rfl rfl Try.underlying52 rfl hs52 ?_; (try simp only [Act.put, zs1, zs2, zs3])) | (go_at_call 35; have _tk := tk0; refine (HSZa.out _ (H.out.C HRa.out)).mono ?_; rintro e w23 ⟨rfl, hb⟩; have H1 := Az.mk (H.out.step hb); clear hb; clear H; have H := H1; clear H1; clear tk0 _tk; have tk1 : True := trivial) | ((with_reducible refine zqg (N := 26) rfl ?_); refine H.out.ld_row 0 rfl rfl rfl rfl Try.underlying52 rfl hs52 ?_; (try simp only [Act.put, zs1, zs2, zs3])) | (go_at_call 35; have _tk := tk1; refine (HSZb.out _ (H.out.C HRb.out)).mono ?_; rintro e w28 ⟨rfl, hb⟩; have H1 := Az.mk (H.out.step hb); clear hb; clear H; have H := H1; clear H1; clear tk1 _tk; have tk2 : True := trivial))
   refine start_ (n := 12) (S := fun w' => Hd w.heap.size w w' [.box g6 ((cA mb (txb, lb))) 52, .box g5 ((cA ma (txa, la))) 52]) (ds := []) (bm 12 0) (by kernel_rfl) rfl rfl (H.out.drew) (fun hHeld => ?_)
   clear H
   generalize World.drew w28 = wd8 at hHeld ⊢
   have H := Az.mk hHeld
   refine zqp (i := 0) (N := some 32) (v := ?_) (a' := ?_) (bm 12 1) rfl rfl (by kernel_rfl) (fun _ _ _ h => h) (Or.inl ⟨by rfl, ?_⟩) ?_ ?_
   rotate_left
   ·intro w'
    go_simp
    with_reducible rfl
   rotate_left
   ·simp only [Act.put, zs1, zs2, zs3, i64_w, i32_w]
    rfl
   refine zqp (i := 5) (N := some 37) (v := ?_) (a' := ?_) (bm 12 33) rfl rfl (by kernel_rfl) (fun _ _ _ h => h) (Or.inl ⟨by rfl, ?_⟩) ?_ ?_
   rotate_left
   ·intro w'
    go_simp
    with_reducible rfl
   rotate_left
   ·simp only [Act.put, zs1, zs2, zs3, i64_w, i32_w]
    rfl
   refine zqt (i := 1) (N := some 33) (v := .agg ((cA ma (txa, la)))) (a' := ?_) (bm 12 35) rfl rfl (by kernel_rfl) (fun _ _ _ h => h) (Or.inl ⟨by rfl, fun w' s0 => s0.run_row 1 rfl rfl rfl Try.underlying52 rfl hs52⟩) hHeld ?_ ?_
   rotate_left
   ·simp only [Act.put, zs1, zs2, zs3, i64_w, i32_w]
    rfl
   refine zqt (i := 3) (N := some 35) (v := .agg ((cA mb (txb, lb)))) (a' := ?_) (bm 12 43) rfl rfl (by kernel_rfl) (fun _ _ _ h => h) (Or.inl ⟨by rfl, fun w' s0 => s0.run_row 0 rfl rfl rfl Try.underlying52 rfl hs52⟩) hHeld ?_ ?_
   rotate_left
   ·simp only [Act.put, zs1, zs2, zs3, i64_w, i32_w]
    rfl
   refine one_ (i := 2) (N := some 34) (bm 12 47) rfl rfl (by kernel_rfl) (by decide) (fun K hK => ?_)
   refine goes_ Try.func37 (by kernel_rfl) rfl #[.agg ((cA ma (txa, la)))] (by rfl) rfl rfl (by (try simp only [List.map_toArray, List.map_cons, List.map_nil]); first | done | rfl) ?_
   refine (toRoot_call HFa.out (H.out.C HRa.out) HCa.out H.out.ge).mono ?_
   rintro e w34 ⟨M34, rfl, ho, hb⟩
   refine ⟨_, rfl, ?_⟩
   have O34 := Az.mk ho
   clear ho
   have H1 := Az.mk (H.out.made hb); clear hb; clear H; have H := H1; clear H1
   refine hK.out _ _ (H.out.less) (fun hHeld => ?_)
   clear hK K
   refine norm_ (a' := ?_) ?_ ?_
   rotate_left
   ·show Act.put _ (some 34) _ = _
    simp only [Act.put, zs1, zs2, zs3, i64_w, i32_w]
    rfl
   refine one_ (i := 4) (N := some 36) (bm 12 63) rfl rfl (by kernel_rfl) (by decide) (fun K hK => ?_)
   refine goes_ Try.func37 (by kernel_rfl) rfl #[.agg ((cA mb (txb, lb)))] (by rfl) rfl rfl (by (try simp only [List.map_toArray, List.map_cons, List.map_nil]); first | done | rfl) ?_
   refine (toRoot_call HFb.out (H.out.C HRb.out) HCb.out H.out.ge).mono ?_
   rintro e w36 ⟨M36, rfl, ho, hb⟩
   refine ⟨_, rfl, ?_⟩
   have O36 := Az.mk ho
   clear ho
   have H1 := Az.mk (H.out.made hb); clear hb; clear H; have H := H1; clear H1
   refine hK.out _ _ (H.out.less.less) (fun hHeld => ?_)
   clear hK K
   refine norm_ (a' := ?_) ?_ ?_
   rotate_left
   ·show Act.put _ (some 36) _ = _
    simp only [Act.put, zs1, zs2, zs3, i64_w, i32_w]
    rfl
   refine one_ (i := 6) (N := some 38) (bm 12 127) rfl rfl (by kernel_rfl) (by decide) (fun K hK => ?_)
   refine goes_ Try.func50 (by kernel_rfl) rfl #[.int .i64 n, .agg (cR M34 (txa, la.map voC)), .agg (cR M36 (txb, lb.map voC)), .int .i64 cols] (by rfl) rfl rfl (by (try simp only [List.map_toArray, List.map_cons, List.map_nil]); first | done | rfl) ?_
   refine (specTk_call n txa txb cols HRES.out HMa.out HMb.out (H.out.rdR 1 rfl O34.out) (H.out.rdR 0 rfl O36.out) H.out.ge).mono ?_
   rintro e w38 ⟨M38, rfl, ho, hb⟩
   refine ⟨_, rfl, ?_⟩
   have O38 := Az.mk ho
   clear ho
   have H1 := Az.mk (H.out.made hb); clear hb; clear H; have H := H1; clear H1
   refine hK.out _ _ (H.out.less.less.less) (fun hHeld => ?_)
   clear hK K
   refine norm_ (a' := ?_) ?_ ?_
   rotate_left
   ·show Act.put _ (some 38) _ = _
    simp only [Act.put, zs1, zs2, zs3, i64_w, i32_w]
    rfl
   refine zqp (i := 7) (N := some 31) (v := ?_) (a' := ?_) (bm 12 255) rfl rfl (by kernel_rfl) (fun _ _ _ h => h) (Or.inl ⟨by rfl, ?_⟩) ?_ ?_
   rotate_left
   ·intro w'
    go_simp
    with_reducible rfl
   rotate_left
   ·simp only [Act.put, zs1, zs2, zs3, i64_w, i32_w]
    rfl
   refine zqp (i := 8) (N := some 39) (v := ?_) (a' := ?_) (bm 12 511) rfl rfl (by kernel_rfl) (fun _ _ _ h => h) (Or.inl ⟨by rfl, ?_⟩) ?_ ?_
   rotate_left
   ·intro w'
    go_simp
    with_reducible rfl
   rotate_left
   ·simp only [Act.put, zs1, zs2, zs3, i64_w, i32_w]
    rfl
   refine zqp (i := 9) (N := some 40) (v := ?_) (a' := ?_) (bm 12 1023) rfl rfl (by kernel_rfl) (fun _ _ _ h => h) (Or.inl ⟨by rfl, ?_⟩) ?_ ?_
   rotate_left
   ·intro w'
    go_simp
    with_reducible rfl
   rotate_left
   ·simp only [Act.put, zs1, zs2, zs3, i64_w, i32_w]
    rfl
   refine zqp (i := 10) (N := some 10) (v := ?_) (a' := ?_) (bm 12 2047) rfl rfl (by kernel_rfl) (fun _ _ _ h => h) (Or.inl ⟨by rfl, ?_⟩) ?_ ?_
   rotate_left
   ·intro w'
    go_simp
    with_reducible rfl
   rotate_left
   ·simp only [Act.put, zs1, zs2, zs3, i64_w, i32_w]
    rfl
   refine zqp (i := 11) (N := some 11) (v := ?_) (a' := ?_) (bm 12 4095) rfl rfl (by kernel_rfl) (fun _ _ _ h => h) (Or.inl ⟨by rfl, ?_⟩) ?_ ?_
   rotate_left
   ·intro w'
    go_simp
    with_reducible rfl
   rotate_left
   ·simp only [Act.put, zs1, zs2, zs3, i64_w, i32_w]
    rfl
   refine done_ (by kernel_rfl) ?_
   skip
   go_wp2_with (first | ((with_reducible refine zqg (N := 41) rfl ?_); refine H.out.ld_row 4 rfl rfl rfl rfl Try.underlying52 rfl hs52 ?_; (try simp only [Act.put, zs1, zs2, zs3])) | (go_at_call 37; have _tk := tk2; refine (toRoot_call HFa.out (H.out.C HRa.out) HCa.out H.out.ge).mono ?_; rintro e w42 ⟨M42, rfl, ho, hb⟩; have O42 := Az.mk ho; clear ho; have H1 := Az.mk (H.out.made hb); clear hb; clear H; have H := H1; clear H1; clear tk2 _tk; have tk3 : True := trivial) | ((with_reducible refine zqg (N := 12) rfl ?_); refine H.out.bx rfl (#[.int .i64 0, .slice none 0 0]) 57 ?hr ?_; (case hr => first | (go_simp; done) | (go_simp; rfl)); intro g12 w12 H1; clear H; have H := H1; clear H1; (try simp only [Act.put, zs1, zs2, zs3])) | ((with_reducible refine gate_store (t := 57) (p := 12) rfl ?_); refine H.out.st_row 0 rfl rfl (x := .tmp 12) (y := .tmp 42) rfl rfl rfl ((cR M42 (txa, la.map voC))) rfl hs57 rfl (cR_one _ _) ?_; intro ws9_3 H1; clear H; have H := H1; clear H1) | ((with_reducible refine zqg (N := 43) rfl ?_); refine H.out.ld_row 5 rfl rfl rfl rfl Try.underlying52 rfl hs52 ?_; (try simp only [Act.put, zs1, zs2, zs3])) | (go_at_call 37; have _tk := tk3; refine (toRoot_call HFb.out (H.out.C HRb.out) HCb.out H.out.ge).mono ?_; rintro e w44 ⟨M44, rfl, ho, hb⟩; have O44 := Az.mk ho; clear ho; have H1 := Az.mk (H.out.made hb); clear hb; clear H; have H := H1; clear H1; clear tk3 _tk; have tk4 : True := trivial) | ((with_reducible refine zqg (N := 13) rfl ?_); refine H.out.bx rfl (#[.int .i64 0, .slice none 0 0]) 57 ?hr ?_; (case hr => first | (go_simp; done) | (go_simp; rfl)); intro g13 w13 H1; clear H; have H := H1; clear H1; (try simp only [Act.put, zs1, zs2, zs3])) | ((with_reducible refine gate_store (t := 57) (p := 13) rfl ?_); refine H.out.st_row 0 rfl rfl (x := .tmp 13) (y := .tmp 44) rfl rfl rfl ((cR M44 (txb, lb.map voC))) rfl hs57 rfl (cR_one _ _) ?_; intro ws10_3 H1; clear H; have H := H1; clear H1) | ((with_reducible refine zqg (N := 47) rfl ?_); refine H.out.ld_row 2 rfl rfl rfl rfl Try.underlying57 rfl hs57 ?_; (try simp only [Act.put, zs1, zs2, zs3])) | ((with_reducible refine zqg (N := 48) rfl ?_); refine H.out.ld_row 0 rfl rfl rfl rfl Try.underlying57 rfl hs57 ?_; (try simp only [Act.put, zs1, zs2, zs3])) | (go_at_call 51; have _tk := tk4; refine (implTk_call n txa txb cols HRES.out HMa.out HMb.out (H.out.rdR 3 rfl O42.out) (H.out.rdR 1 rfl O44.out) H.out.ge).mono ?_; rintro e w50 ⟨M50, rfl, ho, hb⟩; have O50 := Az.mk ho; clear ho; have H1 := Az.mk (H.out.made hb); clear hb; clear H; have H := H1; clear H1; clear tk4 _tk; have tk5 : True := trivial) | (go_at_call 31; have _tk := tk5; refine (eqPl_call HLN.out (H.out.rdP 0 rfl O50.out) (H.out.rdP 5 rfl O38.out)).mono ?_; rintro e w55 ⟨rfl, hb⟩; have H1 := Az.mk (H.out.step hb); clear hb; clear H; have H := H1; clear H1; clear tk5 _tk; have tk6 : True := trivial))
   refine start_ (n := 5) (S := fun w' => Hd w.heap.size w w' [.same (ws10_3.heap.size) (w50.heap.size) w50, .box g13 ((cR M44 (txb, lb.map voC))) 57, .same (ws9_3.heap.size) (w44.heap.size) w44, .box g12 ((cR M42 (txa, la.map voC))) 57, .same (w38.heap.size) (w42.heap.size) w42, .same (w36.heap.size) (w38.heap.size) w38, .same (w34.heap.size) (w36.heap.size) w36, .same (wd8.heap.size) (w34.heap.size) w34, .box g6 ((cA mb (txb, lb))) 52, .box g5 ((cA ma (txa, la))) 52]) (ds := []) (bm 5 0) (by kernel_rfl) rfl rfl (H.out.drew) (fun hHeld => ?_)
   clear H
   generalize World.drew w55 = wd14 at hHeld ⊢
   have H := Az.mk hHeld
   refine zqt (i := 0) (N := some 62) (v := .agg ((cR M42 (txa, la.map voC)))) (a' := ?_) (bm 5 1) rfl rfl (by kernel_rfl) (fun _ _ _ h => h) (Or.inl ⟨by rfl, fun w' s0 => s0.run_row 3 rfl rfl rfl Try.underlying57 rfl hs57⟩) hHeld ?_ ?_
   rotate_left
   ·simp only [Act.put, zs1, zs2, zs3, i64_w, i32_w]
    rfl
   refine zqt (i := 1) (N := some 63) (v := .agg ((cA ma (txa, la)))) (a' := ?_) (bm 5 3) rfl rfl (by kernel_rfl) (fun _ _ _ h => h) (Or.inl ⟨by rfl, fun w' s0 => s0.run_row 9 rfl rfl rfl Try.underlying52 rfl hs52⟩) hHeld ?_ ?_
   rotate_left
   ·simp only [Act.put, zs1, zs2, zs3, i64_w, i32_w]
    rfl
   refine one_ (i := 2) (N := some 64) (bm 5 7) rfl rfl (by kernel_rfl) (by decide) (fun K hK => ?_)
   refine goes_ Try.func37 (by kernel_rfl) rfl #[.agg ((cA ma (txa, la)))] (by rfl) rfl rfl (by (try simp only [List.map_toArray, List.map_cons, List.map_nil]); first | done | rfl) ?_
   refine (toRoot_call HFa.out (H.out.C HRa.out) HCa.out H.out.ge).mono ?_
   rintro e w64 ⟨M64, rfl, ho, hb⟩
   refine ⟨_, rfl, ?_⟩
   have O64 := Az.mk ho
   clear ho
   have H1 := Az.mk (H.out.made hb); clear hb; clear H; have H := H1; clear H1
   refine hK.out _ _ (H.out.less) (fun hHeld => ?_)
   clear hK K
   refine norm_ (a' := ?_) ?_ ?_
   rotate_left
   ·show Act.put _ (some 64) _ = _
    simp only [Act.put, zs1, zs2, zs3, i64_w, i32_w]
    rfl
   refine one_ (i := 3) (N := some 65) (bm 5 15) rfl rfl (by kernel_rfl) (by decide) (fun K hK => ?_)
   refine goes_ Try.func39 (by kernel_rfl) rfl #[.agg ((cR M42 (txa, la.map voC))), .agg (cR M64 (txa, la.map voC))] (by rfl) rfl rfl (by (try simp only [List.map_toArray, List.map_cons, List.map_nil]); first | done | rfl) ?_
   refine (eqRoot_call HMa.out (H.out.rdR 5 rfl O42.out) (H.out.rdR 0 rfl O64.out)).mono ?_
   rintro e w65 ⟨rfl, hb⟩
   refine ⟨_, rfl, ?_⟩
   have H1 := Az.mk (H.out.step hb); clear hb; clear H; have H := H1; clear H1
   refine hK.out _ _ (H.out.less) (fun hHeld => ?_)
   clear hK K
   refine norm_ (a' := ?_) ?_ ?_
   rotate_left
   ·show Act.put _ (some 65) _ = _
    simp only [Act.put, zs1, zs2, zs3, i64_w, i32_w]
    rfl
   refine zqp (i := 4) (N := some 66) (v := ?_) (a' := ?_) (bm 5 31) rfl rfl (by kernel_rfl) (fun _ _ _ h => h) (Or.inl ⟨by rfl, ?_⟩) ?_ ?_
   rotate_left
   ·intro w'
    go_simp
    with_reducible rfl
   rotate_left
   ·simp only [Act.put, zs1, zs2, zs3, i64_w, i32_w]
    rfl
   refine done_ (by kernel_rfl) ?_
   skip
   go_wp2_with fail
   refine start_ (n := 5) (S := fun w' => Hd w.heap.size w w' [.same (wd14.heap.size) (w64.heap.size) w64, .same (ws10_3.heap.size) (w50.heap.size) w50, .box g13 ((cR M44 (txb, lb.map voC))) 57, .same (ws9_3.heap.size) (w44.heap.size) w44, .box g12 ((cR M42 (txa, la.map voC))) 57, .same (w38.heap.size) (w42.heap.size) w42, .same (w36.heap.size) (w38.heap.size) w38, .same (w34.heap.size) (w36.heap.size) w36, .same (wd8.heap.size) (w34.heap.size) w34, .box g6 ((cA mb (txb, lb))) 52, .box g5 ((cA ma (txa, la))) 52]) (ds := []) (bm 5 0) (by kernel_rfl) rfl rfl (H.out.drew) (fun hHeld => ?_)
   clear H
   generalize World.drew w65 = wd16 at hHeld ⊢
   have H := Az.mk hHeld
   refine zqt (i := 0) (N := some 67) (v := .agg ((cR M44 (txb, lb.map voC)))) (a' := ?_) (bm 5 1) rfl rfl (by kernel_rfl) (fun _ _ _ h => h) (Or.inl ⟨by rfl, fun w' s0 => s0.run_row 2 rfl rfl rfl Try.underlying57 rfl hs57⟩) hHeld ?_ ?_
   rotate_left
   ·simp only [Act.put, zs1, zs2, zs3, i64_w, i32_w]
    rfl
   refine zqt (i := 1) (N := some 68) (v := .agg ((cA mb (txb, lb)))) (a' := ?_) (bm 5 3) rfl rfl (by kernel_rfl) (fun _ _ _ h => h) (Or.inl ⟨by rfl, fun w' s0 => s0.run_row 9 rfl rfl rfl Try.underlying52 rfl hs52⟩) hHeld ?_ ?_
   rotate_left
   ·simp only [Act.put, zs1, zs2, zs3, i64_w, i32_w]
    rfl
   refine one_ (i := 2) (N := some 69) (bm 5 7) rfl rfl (by kernel_rfl) (by decide) (fun K hK => ?_)
   refine goes_ Try.func37 (by kernel_rfl) rfl #[.agg ((cA mb (txb, lb)))] (by rfl) rfl rfl (by (try simp only [List.map_toArray, List.map_cons, List.map_nil]); first | done | rfl) ?_
   refine (toRoot_call HFb.out (H.out.C HRb.out) HCb.out H.out.ge).mono ?_
   rintro e w69 ⟨M69, rfl, ho, hb⟩
   refine ⟨_, rfl, ?_⟩
   have O69 := Az.mk ho
   clear ho
   have H1 := Az.mk (H.out.made hb); clear hb; clear H; have H := H1; clear H1
   refine hK.out _ _ (H.out.less) (fun hHeld => ?_)
   clear hK K
   refine norm_ (a' := ?_) ?_ ?_
   rotate_left
   ·show Act.put _ (some 69) _ = _
    simp only [Act.put, zs1, zs2, zs3, i64_w, i32_w]
    rfl
   refine one_ (i := 3) (N := some 70) (bm 5 15) rfl rfl (by kernel_rfl) (by decide) (fun K hK => ?_)
   refine goes_ Try.func39 (by kernel_rfl) rfl #[.agg ((cR M44 (txb, lb.map voC))), .agg (cR M69 (txb, lb.map voC))] (by rfl) rfl rfl (by (try simp only [List.map_toArray, List.map_cons, List.map_nil]); first | done | rfl) ?_
   refine (eqRoot_call HMb.out (H.out.rdR 4 rfl O44.out) (H.out.rdR 0 rfl O69.out)).mono ?_
   rintro e w70 ⟨rfl, hb⟩
   refine ⟨_, rfl, ?_⟩
   have H1 := Az.mk (H.out.step hb); clear hb; clear H; have H := H1; clear H1
   refine hK.out _ _ (H.out.less) (fun hHeld => ?_)
   clear hK K
   refine norm_ (a' := ?_) ?_ ?_
   rotate_left
   ·show Act.put _ (some 70) _ = _
    simp only [Act.put, zs1, zs2, zs3, i64_w, i32_w]
    rfl
   refine zqp (i := 4) (N := some 71) (v := ?_) (a' := ?_) (bm 5 31) rfl rfl (by kernel_rfl) (fun _ _ _ h => h) (Or.inl ⟨by rfl, ?_⟩) ?_ ?_
   rotate_left
   ·intro w'
    go_simp
    with_reducible rfl
   rotate_left
   ·simp only [Act.put, zs1, zs2, zs3, i64_w, i32_w]
    rfl
   refine done_ (by kernel_rfl) ?_
   skip
   go_wp2_with (first | ((with_reducible refine zqg (N := 72) rfl ?_); refine H.out.ld_row 5 rfl rfl rfl rfl Try.underlying57 rfl hs57 ?_; (try simp only [Act.put, zs1, zs2, zs3])) | (go_at_call 45; have _tk := tk6; refine (markR_call HMa.out H.out.bel (H.out.same_ge 6 rfl) (H.out.owR 6 rfl O42.out) 1 ⟨by decide, by decide⟩).mono ?_; rintro e w74 ⟨j74, rfl, hj, hb, hk⟩; have k74 := Az.mk hj; have c74 : decide ((j74 : Int) < 0) = false := decide_eq_false (by omega); clear hj; have H1 := Az.mk (H.out.wrote 6 rfl hb hk); clear hb hk; clear H; have H := H1; clear H1; clear tk6 _tk; have tk7 : True := trivial) | ((with_reducible refine zqg (N := 75) rfl ?_); refine H.out.ld_row 3 rfl rfl rfl rfl Try.underlying57 rfl hs57 ?_; (try simp only [Act.put, zs1, zs2, zs3])) | (go_at_call 45; have _tk := tk7; refine (markR_call HMb.out H.out.bel (H.out.same_ge 4 rfl) (H.out.owR 4 rfl O44.out) j74 ⟨k74.out.1, by have := k74.out.2; omega⟩).mono ?_; rintro e w77 ⟨j77, rfl, hj, hb, hk⟩; have k77 := Az.mk hj; have c77 : decide ((j77 : Int) < 0) = false := decide_eq_false (by omega); clear hj; have H1 := Az.mk (H.out.wrote 4 rfl hb hk); clear hb hk; clear H; have H := H1; clear H1; clear tk7 _tk; have tk8 : True := trivial) | (go_at_call 31; have _tk := tk8; refine (eqPl_call HLN.out (H.out.rdP 2 rfl O50.out) (H.out.rdP 7 rfl O38.out)).mono ?_; rintro e w83 ⟨rfl, hb⟩; have H1 := Az.mk (H.out.step hb); clear hb; clear H; have H := H1; clear H1; clear tk8 _tk; have tk9 : True := trivial) | (go_at_call 32; have _tk := tk9; refine (markPlS_call HLN.out H.out.bel (H.out.owP 2 rfl O50.out) (H.out.same_le 2 rfl)).mono ?_; rintro e w93 ⟨rfl, ho, hb0, hb, hk⟩; have O93 := Az.mk ho; clear ho hb0; have H1 := Az.mk (H.out.wrote 2 rfl hb hk); clear hb hk; clear H; have H := H1; clear H1; clear tk9 _tk; have tk10 : True := trivial) | (go_at_call 46; have _tk := tk10; refine (heldPl_call HLN.out (H.out.rdP 2 rfl O93.out)).mono ?_; rintro e w96 ⟨rfl, hb⟩; have H1 := Az.mk (H.out.step hb); clear hb; clear H; have H := H1; clear H1; clear tk10 _tk; have tk11 : True := trivial))
   refine start_ (n := 12) (S := fun w' => Hd w.heap.size w w' [.same (wd16.heap.size) (w69.heap.size) w69, .same (wd14.heap.size) (w64.heap.size) w64, .same (ws10_3.heap.size) (w50.heap.size) w93, .box g13 ((cR M44 (txb, lb.map voC))) 57, .same (ws9_3.heap.size) (w44.heap.size) w77, .box g12 ((cR M42 (txa, la.map voC))) 57, .same (w38.heap.size) (w42.heap.size) w74, .same (w36.heap.size) (w38.heap.size) w38, .same (w34.heap.size) (w36.heap.size) w36, .same (wd8.heap.size) (w34.heap.size) w34, .box g6 ((cA mb (txb, lb))) 52, .box g5 ((cA ma (txa, la))) 52]) (ds := []) (bm 12 0) (by kernel_rfl) rfl rfl (H.out.drew) (fun hHeld => ?_)
   clear H
   generalize World.drew w96 = wd31 at hHeld ⊢
   have H := Az.mk hHeld
   refine zqp (i := 0) (N := some 103) (v := ?_) (a' := ?_) (bm 12 1) rfl rfl (by kernel_rfl) (fun _ _ _ h => h) (Or.inl ⟨by rfl, ?_⟩) ?_ ?_
   rotate_left
   ·intro w'
    go_simp
    with_reducible rfl
   rotate_left
   ·simp only [Act.put, zs1, zs2, zs3, i64_w, i32_w]
    rfl
   refine zqp (i := 5) (N := some 108) (v := ?_) (a' := ?_) (bm 12 33) rfl rfl (by kernel_rfl) (fun _ _ _ h => h) (Or.inl ⟨by rfl, ?_⟩) ?_ ?_
   rotate_left
   ·intro w'
    go_simp
    with_reducible rfl
   rotate_left
   ·simp only [Act.put, zs1, zs2, zs3, i64_w, i32_w]
    rfl
   refine zqt (i := 1) (N := some 104) (v := .agg ((cA ma (txa, la)))) (a' := ?_) (bm 12 35) rfl rfl (by kernel_rfl) (fun _ _ _ h => h) (Or.inl ⟨by rfl, fun w' s0 => s0.run_row 11 rfl rfl rfl Try.underlying52 rfl hs52⟩) hHeld ?_ ?_
   rotate_left
   ·simp only [Act.put, zs1, zs2, zs3, i64_w, i32_w]
    rfl
   refine zqt (i := 3) (N := some 106) (v := .agg ((cA mb (txb, lb)))) (a' := ?_) (bm 12 43) rfl rfl (by kernel_rfl) (fun _ _ _ h => h) (Or.inl ⟨by rfl, fun w' s0 => s0.run_row 10 rfl rfl rfl Try.underlying52 rfl hs52⟩) hHeld ?_ ?_
   rotate_left
   ·simp only [Act.put, zs1, zs2, zs3, i64_w, i32_w]
    rfl
   refine one_ (i := 2) (N := some 105) (bm 12 47) rfl rfl (by kernel_rfl) (by decide) (fun K hK => ?_)
   refine goes_ Try.func37 (by kernel_rfl) rfl #[.agg ((cA ma (txa, la)))] (by rfl) rfl rfl (by (try simp only [List.map_toArray, List.map_cons, List.map_nil]); first | done | rfl) ?_
   refine (toRoot_call HFa.out (H.out.C HRa.out) HCa.out H.out.ge).mono ?_
   rintro e w105 ⟨M105, rfl, ho, hb⟩
   refine ⟨_, rfl, ?_⟩
   have O105 := Az.mk ho
   clear ho
   have H1 := Az.mk (H.out.made hb); clear hb; clear H; have H := H1; clear H1
   refine hK.out _ _ (H.out.less) (fun hHeld => ?_)
   clear hK K
   refine norm_ (a' := ?_) ?_ ?_
   rotate_left
   ·show Act.put _ (some 105) _ = _
    simp only [Act.put, zs1, zs2, zs3, i64_w, i32_w]
    rfl
   refine one_ (i := 4) (N := some 107) (bm 12 63) rfl rfl (by kernel_rfl) (by decide) (fun K hK => ?_)
   refine goes_ Try.func37 (by kernel_rfl) rfl #[.agg ((cA mb (txb, lb)))] (by rfl) rfl rfl (by (try simp only [List.map_toArray, List.map_cons, List.map_nil]); first | done | rfl) ?_
   refine (toRoot_call HFb.out (H.out.C HRb.out) HCb.out H.out.ge).mono ?_
   rintro e w107 ⟨M107, rfl, ho, hb⟩
   refine ⟨_, rfl, ?_⟩
   have O107 := Az.mk ho
   clear ho
   have H1 := Az.mk (H.out.made hb); clear hb; clear H; have H := H1; clear H1
   refine hK.out _ _ (H.out.less.less) (fun hHeld => ?_)
   clear hK K
   refine norm_ (a' := ?_) ?_ ?_
   rotate_left
   ·show Act.put _ (some 107) _ = _
    simp only [Act.put, zs1, zs2, zs3, i64_w, i32_w]
    rfl
   refine one_ (i := 6) (N := some 109) (bm 12 127) rfl rfl (by kernel_rfl) (by decide) (fun K hK => ?_)
   refine goes_ Try.func51 (by kernel_rfl) rfl #[.int .i64 n, .agg (cR M105 (txa, la.map voC)), .agg (cR M107 (txb, lb.map voC)), .int .i64 cols] (by rfl) rfl rfl (by (try simp only [List.map_toArray, List.map_cons, List.map_nil]); first | done | rfl) ?_
   refine (implTk_call n txa txb cols HRES.out HMa.out HMb.out (H.out.rdR 1 rfl O105.out) (H.out.rdR 0 rfl O107.out) H.out.ge).mono ?_
   rintro e w109 ⟨M109, rfl, ho, hb⟩
   refine ⟨_, rfl, ?_⟩
   have O109 := Az.mk ho
   clear ho
   have H1 := Az.mk (H.out.made hb); clear hb; clear H; have H := H1; clear H1
   refine hK.out _ _ (H.out.less.less.less) (fun hHeld => ?_)
   clear hK K
   refine norm_ (a' := ?_) ?_ ?_
   rotate_left
   ·show Act.put _ (some 109) _ = _
    simp only [Act.put, zs1, zs2, zs3, i64_w, i32_w]
    rfl
   refine zqp (i := 7) (N := some 102) (v := ?_) (a' := ?_) (bm 12 255) rfl rfl (by kernel_rfl) (fun _ _ _ h => h) (Or.inl ⟨by rfl, ?_⟩) ?_ ?_
   rotate_left
   ·intro w'
    go_simp
    with_reducible rfl
   rotate_left
   ·simp only [Act.put, zs1, zs2, zs3, i64_w, i32_w]
    rfl
   refine zqp (i := 8) (N := some 110) (v := ?_) (a' := ?_) (bm 12 511) rfl rfl (by kernel_rfl) (fun _ _ _ h => h) (Or.inl ⟨by rfl, ?_⟩) ?_ ?_
   rotate_left
   ·intro w'
    go_simp
    with_reducible rfl
   rotate_left
   ·simp only [Act.put, zs1, zs2, zs3, i64_w, i32_w]
    rfl
   refine zqp (i := 9) (N := some 111) (v := ?_) (a' := ?_) (bm 12 1023) rfl rfl (by kernel_rfl) (fun _ _ _ h => h) (Or.inl ⟨by rfl, ?_⟩) ?_ ?_
   rotate_left
   ·intro w'
    go_simp
    with_reducible rfl
   rotate_left
   ·simp only [Act.put, zs1, zs2, zs3, i64_w, i32_w]
    rfl
   refine zqp (i := 10) (N := some 19) (v := ?_) (a' := ?_) (bm 12 2047) rfl rfl (by kernel_rfl) (fun _ _ _ h => h) (Or.inl ⟨by rfl, ?_⟩) ?_ ?_
   rotate_left
   ·intro w'
    go_simp
    with_reducible rfl
   rotate_left
   ·simp only [Act.put, zs1, zs2, zs3, i64_w, i32_w]
    rfl
   refine zqp (i := 11) (N := some 20) (v := ?_) (a' := ?_) (bm 12 4095) rfl rfl (by kernel_rfl) (fun _ _ _ h => h) (Or.inl ⟨by rfl, ?_⟩) ?_ ?_
   rotate_left
   ·intro w'
    go_simp
    with_reducible rfl
   rotate_left
   ·simp only [Act.put, zs1, zs2, zs3, i64_w, i32_w]
    rfl
   refine done_ (by kernel_rfl) ?_
   skip
   go_wp2_with (first | (go_at_call 31; have _tk := tk11; refine (eqPl_call HLN.out (H.out.rdP 0 rfl O109.out) (H.out.rdP 10 rfl O38.out)).mono ?_; rintro e w114 ⟨rfl, hb⟩; have H1 := Az.mk (H.out.step hb); clear hb; clear H; have H := H1; clear H1; clear tk11 _tk; have tk12 : True := trivial) | (go_at_call 46; have _tk := tk12; refine (heldPl_call HLN.out (H.out.rdP 5 rfl O93.out)).mono ?_; rintro e w123 ⟨rfl, hb⟩; have H1 := Az.mk (H.out.step hb); clear hb; clear H; have H := H1; clear H1; clear tk12 _tk; have tk13 : True := trivial))
   go_ret
   exact ⟨rfl, H.out.bel⟩
end Go.Proofs.Ytkoimmeghdbodaa.Hd
namespace Go.Proofs.Ytkoimmeghdbodaa.fnExactSpaceTake
open Go.ChangeShapes Go.WideShapes Go.ChangeAt Go.RowKit Go.Proofs.Ytkoimmeghdbodaa.Print Go.Proofs.Ytkoimmeghdbodaa.Take Go.Proofs.YtkoimmeghdbodaaW.PrintWords
open Go.ChangeMaps (open_string shut_string)
set_option linter.unusedVariables false
theorem own : ownKnob Try.prog.godebug = none := by kernel_rfl
theorem laidOut : laidOutB Try.prog = true := by kernel_rfl
set_option maxRecDepth 100000 in
theorem lifted (os : Os) (started : os.Started) (H : Type) (enc : TypeId × Value → H) :
    ReturnsInHanded {} Try.checked os 13 .any (Rows.fnExactSpaceTakeSpec.pre6 enc Try.prog Try.f13 Rows.fnExactSpaceTakeRow.domain false) (Rows.fnExactSpaceTakeSpec.post enc Try.prog Try.f13 false true false false) := by
  refine returnsInHanded_of_change_sized (C := Try.checked) own started (by kernel_rfl) Try.func13
    (ChangeSpec.witness6 (enc := enc) (C := Try.checked) false ⟨#[], #[.int .i64 0, .agg #[.int .i64 0, .slice none 0 0], .agg #[.int .i64 0, .slice none 0 0], .int .i64 0], []⟩ 8 (by kernel_rfl) (by kernel_rfl) (by kernel_rfl) (by kernel_rfl)) ?_
  intro W base args ds gs before hval0 hW hcnd hsz0 _
  have hsz : (DataW.weightsEach Try.prog (Try.f13.params.toList ++ Rows.fnExactSpaceTakeSpec.plain.varTypes Try.prog) (ds ++ gs)).all (· ≤ reachBytes) = true := hsz0
  have hval : ∀ (j : Nat) t v, Try.f13.params[j]? = some t → args[j]? = some v → Value.okWide Try.prog W .any base t v := hval0
  have hW' := hW
  obtain ⟨p, q, hA0, hV, rfl, hfz, hnd⟩ := hW
  have hA : DataW.TrodAll enc Try.prog W 0 (fun _ => true) true Try.f13.params.toList args.toList ds p := hA0
  rw [Try.params13] at hA hval hsz
  obtain ⟨v0, vs0, d0, ds0, p0, q0, hargs, rfl, rfl, h0, r0⟩ := trodAll_cons hA
  obtain ⟨v1, vs1, d1, ds1, p1, q1, rfl, rfl, rfl, h1, r1⟩ := trodAll_cons r0
  obtain ⟨v2, vs2, d2, ds2, p2, q2, rfl, rfl, rfl, h2, r2⟩ := trodAll_cons r1
  obtain ⟨v3, vs3, d3, ds3, p3, q3, rfl, rfl, rfl, h3, r3⟩ := trodAll_cons r2
  obtain ⟨rfl, rfl, rfl⟩ := trodAll_nil r3
  obtain rfl : args = #[v0, v1, v2, v3] := by cases args; simp_all
  obtain ⟨rfl, rfl⟩ := trodVars_none hV
  obtain ⟨a0, rfl, rfl, rfl, w0⟩ := open_int Try.underlying3 (hval 0 3 v0 rfl rfl) h0
  obtain ⟨b1, rfl, _⟩ := okWide_struct Try.underlying52 (hval 1 52 v1 rfl rfl)
  have k1 := h1
  have lt1 : ∀ x ∈ p1, x.block < W.heap.size := by obtain ⟨m, hm⟩ := k1; exact DataW.trod_lt m _ _ _ hm
  obtain ⟨n1, hf1⟩ := h1
  obtain ⟨y1, hk1, w1⟩ := o52.opens _ _ _ _ _ _ _ _ _ hf1
  obtain ⟨A1_1, c1_1, hcs1, hc1_1, hr1_1⟩ := k52_open hk1
  obtain rfl : b1 = #[.int .i64 y1.f0, .slice A1_1 y1.f1.length c1_1] := by cases b1; simpa [Value.cells] using hcs1
  obtain ⟨b2, rfl, _⟩ := okWide_struct Try.underlying52 (hval 2 52 v2 rfl rfl)
  have k2 := h2
  have lt2 : ∀ x ∈ p2, x.block < W.heap.size := by obtain ⟨m, hm⟩ := k2; exact DataW.trod_lt m _ _ _ hm
  obtain ⟨n2, hf2⟩ := h2
  obtain ⟨y2, hk2, w2⟩ := o52.opens _ _ _ _ _ _ _ _ _ hf2
  obtain ⟨A2_1, c2_1, hcs2, hc2_1, hr2_1⟩ := k52_open hk2
  obtain rfl : b2 = #[.int .i64 y2.f0, .slice A2_1 y2.f1.length c2_1] := by cases b2; simpa [Value.cells] using hcs2
  obtain ⟨a3, rfl, rfl, rfl, w3⟩ := open_int Try.underlying3 (hval 3 3 v3 rfl rfl) h3
  clear hA0 hval0 hsz0 hsz
  skip
  refine (Hd.law_FnExactSpaceTake a0 y1.f0 y2.f0 a3 (A1_1, c1_1) (A2_1, c2_1) y1.f1 y2.f1 W hr1_1 hc1_1 w1 hr2_1 hc2_1 w2).mono fun e W' ⟨he, bel0⟩ => ?_
  have bel := bel0
  subst he
  exact ⟨_, rfl, _, _, _, [], _, [], hW', trodAll_mk1 (shut_bool Try.underlying4 _), (trodAll_cons_mk (shut_int Try.underlying3 w0) (trodAll_cons_mk (Below.trod laidOut (by kernel_rfl) (of_decide_eq_true (by kernel_rfl)) k1 bel lt1) (trodAll_cons_mk (Below.trod laidOut (by kernel_rfl) (of_decide_eq_true (by kernel_rfl)) k2 bel lt2) (trodAll_cons_mk (shut_int Try.underlying3 w3) trodAll_mk0)))), rfl, bel.frame _, fun h => by cases h⟩
theorem over : Rows.fnExactSpaceTakeRow.holds Try.pinned (OpenSpec.ofChange Rows.fnExactSpaceTakeSpec) :=
  OpenClaim.holds_of_wide 13 Try.f13 rfl rfl rfl rfl rfl rfl rfl ⟨rfl, rfl, rfl, rfl, rfl⟩ rfl rfl rfl rfl rfl (by kernel_rfl) Try.func13 (by kernel_rfl)
    (of_decide_eq_true (by kernel_rfl)) (by unfold Func.isWrapper; first | (rw [if_pos (by decide +kernel)]; kernel_rfl) | (rw [if_neg (by decide +kernel)]; exact ⟨rfl, rfl⟩))
    (fun os started H enc _ => lifted os started H enc)
theorem proved : Rows.FnExactSpaceTakeSaid := over
#print axioms proved
end Go.Proofs.Ytkoimmeghdbodaa.fnExactSpaceTake
namespace Go.Proofs.Ytkoimmeghdbodaa
theorem fnExactSpaceTake_holds : Rows.FnExactSpaceTakeSaid := fnExactSpaceTake.proved
end Go.Proofs.Ytkoimmeghdbodaa
