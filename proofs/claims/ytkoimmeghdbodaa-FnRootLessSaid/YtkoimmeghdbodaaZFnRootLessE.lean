/- Proved, with what follows on it: the row of the law FnRootLess. Conditions: the row's alone. Texts of this session and words that the kit's print laid for this seat, merged and cut by shrink.py, a program of this session. -/
import Derived.Test.YtkoimmeghdbodaaZFnRootLessD
set_option linter.unusedVariables false
set_option linter.unusedSimpArgs false
namespace Go.Proofs.Ytkoimmeghdbodaa.Print
open Go.RowKit Go.Proofs.YtkoimmeghdbodaaW.PrintWords Go.Proofs.YtkoimmeghdbodaaW.PrintLast Go.Proofs.YtkoimmeghdbodaaW.PrintMore
attribute [local go_sem] max2_int min2_int max_two min_two max_three min_three max_four min_four
attribute [local go_sem high] eqA37
mutual
def spec_l2Same.j0 : Nat → Bool → Int → Int → List (S37) → Int → Int → List (S37) → Option (Bool)
 | 0, _, _, _, _, _, _, _ => none
 | k + 1, x26, x438000, x438001, x438002, x439000, x439001, x439002 => if x26 = true then (some false) else (spec_l2Same.l0 k 0 x438000 x438001 x438002 x439000 x439001 x439002)
def spec_l2Same.l0 : Nat → Int → Int → Int → List (S37) → Int → Int → List (S37) → Option (Bool)
 | 0, _, _, _, _, _, _, _ => none
 | k + 1, x5, x438000, x438001, x438002, x439000, x439001, x439002 => if x5 < (x438002.length : Int) then (if 0 ≤ x5 then (if x5 < (x439002.length : Int) then (if (!(((rd_T37 x438002 x5).f0) == ((rd_T37 x439002 x5).f0)) || (!(((rd_T37 x438002 x5).f1) == ((rd_T37 x439002 x5).f1)))) = true then (some false) else (spec_l2Same.l0 k (wrap64 (x5 + 1)) x438000 x438001 x438002 x439000 x439001 x439002)) else (none)) else (none)) else (some true)
end
def spec_l2Same.f (k : Nat) (a0_0 : Int) (a0_1 : Int) (l0_2 : List (S37)) (a1_0 : Int) (a1_1 : Int) (l1_2 : List (S37)) : Option (Bool) := if a0_0 = a1_0 then (if a0_1 = a1_1 then (spec_l2Same.j0 k ((l0_2.length : Int) != (l1_2.length : Int)) a0_0 a0_1 l0_2 a1_0 a1_1 l1_2) else (spec_l2Same.j0 k true a0_0 a0_1 l0_2 a1_0 a1_1 l1_2)) else (spec_l2Same.j0 k true a0_0 a0_1 l0_2 a1_0 a1_1 l1_2)
set_option maxHeartbeats 8000000 in
set_option maxRecDepth 100000 in
theorem spec_l2Same.calls (k : Nat) (a0_0 : Int) (a0_1 : Int) (A0_2 : Option Addr) (c0_2 : Nat) (l0_2 : List (S37)) (a1_0 : Int) (a1_1 : Int) (A1_2 : Option Addr) (c1_2 : Nat) (l1_2 : List (S37)) (r : Bool) (w : World) (hr0_2 : Kd.C k37 w A0_2 l0_2.length l0_2) (hc0_2 : l0_2.length ≤ c0_2) (hr1_2 : Kd.C k37 w A1_2 l1_2.length l1_2) (hc1_2 : l1_2.length ≤ c1_2) (h : spec_l2Same.f k a0_0 a0_1 l0_2 a1_0 a1_1 l1_2 = some r) :
  Calls Try.prog 99 #[.agg #[.int .i64 a0_0, .int .i64 a0_1, .slice A0_2 l0_2.length c0_2], .agg #[.int .i64 a1_0, .int .i64 a1_1, .slice A1_2 l1_2.length c1_2]] w fun e w' => e = .returned (.bool r) ∧ Below w.heap.size w w' := by
 have hu29 := Try.underlying29
 have hu37 := Try.underlying37
 have HR0_2 := Az.mk hr0_2
 have HC0_2 := Az.mk hc0_2
 clear hr0_2 hc0_2
 have HR1_2 := Az.mk hr1_2
 have HC1_2 := Az.mk hc1_2
 clear hr1_2 hc1_2
 have HB := Az.mk (Below.refl w.heap.size w)
 have H : (if a0_0 = a1_0 then (if a0_1 = a1_1 then (spec_l2Same.j0 k ((l0_2.length : Int) != (l1_2.length : Int)) a0_0 a0_1 l0_2 a1_0 a1_1 l1_2) else (spec_l2Same.j0 k true a0_0 a0_1 l0_2 a1_0 a1_1 l1_2)) else (spec_l2Same.j0 k true a0_0 a0_1 l0_2 a1_0 a1_1 l1_2)) = some r := h
 clear h
 have HC3 := Az.mk H
 clear H
 go_enter Try.func99, Try.ntmps99
 go_upto_region 1 with (first | ((with_reducible refine zqg (N := 2) rfl ?_); (try (refine gate_guard (by rfl) ?_; dsimp only)); refine zqb ?hg (N := 2) ?hd (cs := #[.int .i64 a0_0, .int .i64 a0_1, .slice A0_2 l0_2.length c0_2]) (t := 29) ?hr ?_; (case hd => rfl); (case hg => rfl); (case hr => first | (go_simp; done) | (go_simp; rfl)); intro gb437 hg w4 hbox hb; have n0_ := Az.mk (below_step zB hb); have n1_ := Az.mk (hbox); have n2_ := Az.mk ((by rw [hg]; exact (below_size zB) : w.heap.size ≤ gb437)); have n3_ := Az.mk ((by rw [hg]; exact (below_size zB) : w.heap.size ≤ gb437)); clear HB; have HB := n0_; have BK437 := n1_; have GW437 := n2_; have GE437 := n3_; clear n0_ n1_ n2_ n3_; clear hb hbox hg) | ((with_reducible refine zqg (N := 3) rfl ?_); (try (refine gate_guard (by rfl) ?_; dsimp only)); refine zqb ?hg (N := 3) ?hd (cs := #[.int .i64 a1_0, .int .i64 a1_1, .slice A1_2 l1_2.length c1_2]) (t := 29) ?hr ?_; (case hd => rfl); (case hg => rfl); (case hr => first | (go_simp; done) | (go_simp; rfl)); intro gb438 hg w5 hbox hb; have n0_ := Az.mk (blk_below (g := gb437) (o := .cells #[.int .i64 a0_0, .int .i64 a0_1, .slice A0_2 l0_2.length c0_2] 29 (0, 0)) (by (with_reducible repeat (first | refine zq6 ?_ _ | refine zq8 ?_ | refine zq7 ?_ _)); exact BK437.out) hb); have n1_ := Az.mk (below_step (by repeat (first | (with_reducible first | exact HB.out | apply zq2 | apply zq1 | apply zqd | refine zq3 ?_ GE437.out) | exact HB.out)) hb); have n2_ := Az.mk (hbox); have n3_ := Az.mk ((by rw [hg]; exact (below_size (by repeat (first | (with_reducible first | exact HB.out | apply zq2 | apply zq1 | apply zqd | refine zq3 ?_ GE437.out) | exact HB.out))) : w.heap.size ≤ gb438)); have n4_ := Az.mk ((by rw [hg]; exact (below_size (by repeat (first | (with_reducible first | exact HB.out | apply zq2 | apply zq1 | apply zqd | refine zq3 ?_ GE437.out) | exact HB.out))) : w.heap.size ≤ gb438)); have n5_ := Az.mk ((by rw [hg]; exact Nat.ne_of_lt (blk_lt (g := gb437) (o := .cells #[.int .i64 a0_0, .int .i64 a0_1, .slice A0_2 l0_2.length c0_2] 29 (0, 0)) (by (with_reducible repeat (first | refine zq6 ?_ _ | refine zq8 ?_ | refine zq7 ?_ _)); exact BK437.out)) : gb437 ≠ gb438)); have n6_ := Az.mk ((by rw [hg]; exact Nat.ne_of_gt (blk_lt (g := gb437) (o := .cells #[.int .i64 a0_0, .int .i64 a0_1, .slice A0_2 l0_2.length c0_2] 29 (0, 0)) (by (with_reducible repeat (first | refine zq6 ?_ _ | refine zq8 ?_ | refine zq7 ?_ _)); exact BK437.out)) : gb438 ≠ gb437)); clear BK437; clear HB; have BK437 := n0_; have HB := n1_; have BK438 := n2_; have GW438 := n3_; have GE438 := n4_; have NB437_438 := n5_; have NB438_437 := n6_; clear n0_ n1_ n2_ n3_ n4_ n5_ n6_; clear hb hbox hg))
 repeat (go_quiet (first | ((with_reducible refine zqg (N := 2) rfl ?_); (try (refine gate_guard (by rfl) ?_; dsimp only)); refine zqb ?hg (N := 2) ?hd (cs := #[.int .i64 a0_0, .int .i64 a0_1, .slice A0_2 l0_2.length c0_2]) (t := 29) ?hr ?_; (case hd => rfl); (case hg => rfl); (case hr => first | (go_simp; done) | (go_simp; rfl)); intro gb437 hg w4 hbox hb; have n0_ := Az.mk (below_step zB hb); have n1_ := Az.mk (hbox); have n2_ := Az.mk ((by rw [hg]; exact (below_size zB) : w.heap.size ≤ gb437)); have n3_ := Az.mk ((by rw [hg]; exact (below_size zB) : w.heap.size ≤ gb437)); clear HB; have HB := n0_; have BK437 := n1_; have GW437 := n2_; have GE437 := n3_; clear n0_ n1_ n2_ n3_; clear hb hbox hg) | ((with_reducible refine zqg (N := 3) rfl ?_); (try (refine gate_guard (by rfl) ?_; dsimp only)); refine zqb ?hg (N := 3) ?hd (cs := #[.int .i64 a1_0, .int .i64 a1_1, .slice A1_2 l1_2.length c1_2]) (t := 29) ?hr ?_; (case hd => rfl); (case hg => rfl); (case hr => first | (go_simp; done) | (go_simp; rfl)); intro gb438 hg w5 hbox hb; have n0_ := Az.mk (blk_below (g := gb437) (o := .cells #[.int .i64 a0_0, .int .i64 a0_1, .slice A0_2 l0_2.length c0_2] 29 (0, 0)) (by (with_reducible repeat (first | refine zq6 ?_ _ | refine zq8 ?_ | refine zq7 ?_ _)); exact BK437.out) hb); have n1_ := Az.mk (below_step (by repeat (first | (with_reducible first | exact HB.out | apply zq2 | apply zq1 | apply zqd | refine zq3 ?_ GE437.out) | exact HB.out)) hb); have n2_ := Az.mk (hbox); have n3_ := Az.mk ((by rw [hg]; exact (below_size (by repeat (first | (with_reducible first | exact HB.out | apply zq2 | apply zq1 | apply zqd | refine zq3 ?_ GE437.out) | exact HB.out))) : w.heap.size ≤ gb438)); have n4_ := Az.mk ((by rw [hg]; exact (below_size (by repeat (first | (with_reducible first | exact HB.out | apply zq2 | apply zq1 | apply zqd | refine zq3 ?_ GE437.out) | exact HB.out))) : w.heap.size ≤ gb438)); have n5_ := Az.mk ((by rw [hg]; exact Nat.ne_of_lt (blk_lt (g := gb437) (o := .cells #[.int .i64 a0_0, .int .i64 a0_1, .slice A0_2 l0_2.length c0_2] 29 (0, 0)) (by (with_reducible repeat (first | refine zq6 ?_ _ | refine zq8 ?_ | refine zq7 ?_ _)); exact BK437.out)) : gb437 ≠ gb438)); have n6_ := Az.mk ((by rw [hg]; exact Nat.ne_of_gt (blk_lt (g := gb437) (o := .cells #[.int .i64 a0_0, .int .i64 a0_1, .slice A0_2 l0_2.length c0_2] 29 (0, 0)) (by (with_reducible repeat (first | refine zq6 ?_ _ | refine zq8 ?_ | refine zq7 ?_ _)); exact BK437.out)) : gb438 ≠ gb437)); clear BK437; clear HB; have BK437 := n0_; have HB := n1_; have BK438 := n2_; have GW438 := n3_; have GE438 := n4_; have NB437_438 := n5_; have NB438_437 := n6_; clear n0_ n1_ n2_ n3_ n4_ n5_ n6_; clear hb hbox hg)); go_upto_region 1 with (first | ((with_reducible refine zqg (N := 2) rfl ?_); (try (refine gate_guard (by rfl) ?_; dsimp only)); refine zqb ?hg (N := 2) ?hd (cs := #[.int .i64 a0_0, .int .i64 a0_1, .slice A0_2 l0_2.length c0_2]) (t := 29) ?hr ?_; (case hd => rfl); (case hg => rfl); (case hr => first | (go_simp; done) | (go_simp; rfl)); intro gb437 hg w4 hbox hb; have n0_ := Az.mk (below_step zB hb); have n1_ := Az.mk (hbox); have n2_ := Az.mk ((by rw [hg]; exact (below_size zB) : w.heap.size ≤ gb437)); have n3_ := Az.mk ((by rw [hg]; exact (below_size zB) : w.heap.size ≤ gb437)); clear HB; have HB := n0_; have BK437 := n1_; have GW437 := n2_; have GE437 := n3_; clear n0_ n1_ n2_ n3_; clear hb hbox hg) | ((with_reducible refine zqg (N := 3) rfl ?_); (try (refine gate_guard (by rfl) ?_; dsimp only)); refine zqb ?hg (N := 3) ?hd (cs := #[.int .i64 a1_0, .int .i64 a1_1, .slice A1_2 l1_2.length c1_2]) (t := 29) ?hr ?_; (case hd => rfl); (case hg => rfl); (case hr => first | (go_simp; done) | (go_simp; rfl)); intro gb438 hg w5 hbox hb; have n0_ := Az.mk (blk_below (g := gb437) (o := .cells #[.int .i64 a0_0, .int .i64 a0_1, .slice A0_2 l0_2.length c0_2] 29 (0, 0)) (by (with_reducible repeat (first | refine zq6 ?_ _ | refine zq8 ?_ | refine zq7 ?_ _)); exact BK437.out) hb); have n1_ := Az.mk (below_step (by repeat (first | (with_reducible first | exact HB.out | apply zq2 | apply zq1 | apply zqd | refine zq3 ?_ GE437.out) | exact HB.out)) hb); have n2_ := Az.mk (hbox); have n3_ := Az.mk ((by rw [hg]; exact (below_size (by repeat (first | (with_reducible first | exact HB.out | apply zq2 | apply zq1 | apply zqd | refine zq3 ?_ GE437.out) | exact HB.out))) : w.heap.size ≤ gb438)); have n4_ := Az.mk ((by rw [hg]; exact (below_size (by repeat (first | (with_reducible first | exact HB.out | apply zq2 | apply zq1 | apply zqd | refine zq3 ?_ GE437.out) | exact HB.out))) : w.heap.size ≤ gb438)); have n5_ := Az.mk ((by rw [hg]; exact Nat.ne_of_lt (blk_lt (g := gb437) (o := .cells #[.int .i64 a0_0, .int .i64 a0_1, .slice A0_2 l0_2.length c0_2] 29 (0, 0)) (by (with_reducible repeat (first | refine zq6 ?_ _ | refine zq8 ?_ | refine zq7 ?_ _)); exact BK437.out)) : gb437 ≠ gb438)); have n6_ := Az.mk ((by rw [hg]; exact Nat.ne_of_gt (blk_lt (g := gb437) (o := .cells #[.int .i64 a0_0, .int .i64 a0_1, .slice A0_2 l0_2.length c0_2] 29 (0, 0)) (by (with_reducible repeat (first | refine zq6 ?_ _ | refine zq8 ?_ | refine zq7 ?_ _)); exact BK437.out)) : gb438 ≠ gb437)); clear BK437; clear HB; have BK437 := n0_; have HB := n1_; have BK438 := n2_; have GW438 := n3_; have GE438 := n4_; have NB437_438 := n5_; have NB438_437 := n6_; clear n0_ n1_ n2_ n3_ n4_ n5_ n6_; clear hb hbox hg)))
 (try simp only [Act.put, zs1, zs2, zs3])
 go_cut [26] (fun v26 wc => ∃ (kq : Nat) (x26_2 : Bool), v26 = .bool x26_2 ∧ Az (spec_l2Same.j0 kq x26_2 a0_0 a0_1 l0_2 a1_0 a1_1 l1_2 = some r) ∧ Az (kq ≤ k) ∧ Az (wc.heap[gb437]? = some (.cells #[.int .i64 a0_0, .int .i64 a0_1, (.slice A0_2 l0_2.length c0_2)] 29 (0, 0))) ∧ Az (wc.heap[gb438]? = some (.cells #[.int .i64 a1_0, .int .i64 a1_1, (.slice A1_2 l1_2.length c1_2)] 29 (0, 0))) ∧ Az (Below w.heap.size w wc))
 case first =>
  have H := HC3.out
  clear HC3
  by_cases c6 : a0_0 = a1_0
  ·rw [if_pos c6] at H
   have c6b0 : (a0_0 == a1_0) = true := beq_iff_eq.mpr c6
   have c6b1 : (a0_0 != a1_0) = false := bne_eq_false_iff_eq.mpr c6
   clear c6
   (first | rw [c6b0] | (simp only [i64_w, i32_w]; rw [c6b0]) | skip)
   by_cases c7 : a0_1 = a1_1
   ·rw [if_pos c7] at H
    have c7b0 : (a0_1 == a1_1) = true := beq_iff_eq.mpr c7
    have c7b1 : (a0_1 != a1_1) = false := bne_eq_false_iff_eq.mpr c7
    clear c7
    have H' := Az.mk H
    clear H
    have hnb8 := NB437_438.out
    have hnc8 := NB438_437.out
    have hcz9_0 : w5.cell? ⟨gb437, 0, none⟩ = some (.int .i64 a0_0) := (zq4 BK437.out 0).trans rfl
    have hcz9_1 : w5.cell? ⟨gb437, 1, none⟩ = some (.int .i64 a0_1) := (zq4 BK437.out 1).trans rfl
    have hcz9_2 : w5.cell? ⟨gb437, 2, none⟩ = some (.slice A0_2 l0_2.length c0_2) := (zq4 BK437.out 2).trans rfl
    have hfz9_0 := zq5 BK437.out 0
    have hfz9_1 := zq5 BK437.out 1
    have hfz9_2 := zq5 BK437.out 2
    have hcz10_0 : w5.cell? ⟨gb438, 0, none⟩ = some (.int .i64 a1_0) := (zq4 BK438.out 0).trans rfl
    have hcz10_1 : w5.cell? ⟨gb438, 1, none⟩ = some (.int .i64 a1_1) := (zq4 BK438.out 1).trans rfl
    have hcz10_2 : w5.cell? ⟨gb438, 2, none⟩ = some (.slice A1_2 l1_2.length c1_2) := (zq4 BK438.out 2).trans rfl
    have hfz10_0 := zq5 BK438.out 0
    have hfz10_1 := zq5 BK438.out 1
    have hfz10_2 := zq5 BK438.out 2
    go_wp2
    repeat (go_quiet (fail); try go_wp2)
    go_meet
    case rel => exact ⟨_, (((l0_2.length : Int) != (l1_2.length : Int))), (by first | rfl | (simp; done) | (simp [*]; done)), H', ⟨by first | omega | exact Nat.le_refl _⟩, ⟨by (with_reducible repeat (first | refine zq6 ?_ _ | refine zq8 ?_ | refine zq7 ?_ _)); exact BK437.out⟩, ⟨by (with_reducible repeat (first | refine zq6 ?_ _ | refine zq8 ?_ | refine zq7 ?_ _)); exact BK438.out⟩, ⟨by repeat (first | (with_reducible first | exact HB.out | apply zq2 | apply zq1 | apply zqd | refine zq3 ?_ GE437.out | refine zq3 ?_ GE438.out) | exact HB.out)⟩⟩
   ·rw [if_neg c7] at H
    have c7b0 : (a0_1 == a1_1) = false := beq_eq_false_iff_ne.mpr c7
    have c7b1 : (a0_1 != a1_1) = true := bne_iff_ne.mpr c7
    have H' := Az.mk H
    clear H
    have hnb11 := NB437_438.out
    have hnc11 := NB438_437.out
    have hcz12_0 : w5.cell? ⟨gb437, 0, none⟩ = some (.int .i64 a0_0) := (zq4 BK437.out 0).trans rfl
    have hcz12_1 : w5.cell? ⟨gb437, 1, none⟩ = some (.int .i64 a0_1) := (zq4 BK437.out 1).trans rfl
    have hcz12_2 : w5.cell? ⟨gb437, 2, none⟩ = some (.slice A0_2 l0_2.length c0_2) := (zq4 BK437.out 2).trans rfl
    have hfz12_0 := zq5 BK437.out 0
    have hfz12_1 := zq5 BK437.out 1
    have hfz12_2 := zq5 BK437.out 2
    have hcz13_0 : w5.cell? ⟨gb438, 0, none⟩ = some (.int .i64 a1_0) := (zq4 BK438.out 0).trans rfl
    have hcz13_1 : w5.cell? ⟨gb438, 1, none⟩ = some (.int .i64 a1_1) := (zq4 BK438.out 1).trans rfl
    have hcz13_2 : w5.cell? ⟨gb438, 2, none⟩ = some (.slice A1_2 l1_2.length c1_2) := (zq4 BK438.out 2).trans rfl
    have hfz13_0 := zq5 BK438.out 0
    have hfz13_1 := zq5 BK438.out 1
    have hfz13_2 := zq5 BK438.out 2
    go_wp2
    repeat (go_quiet (fail); try go_wp2)
    go_meet
    case rel => exact ⟨_, (true), (by first | rfl | (simp; done) | (simp [*]; done)), H', ⟨by first | omega | exact Nat.le_refl _⟩, ⟨by (with_reducible repeat (first | refine zq6 ?_ _ | refine zq8 ?_ | refine zq7 ?_ _)); exact BK437.out⟩, ⟨by (with_reducible repeat (first | refine zq6 ?_ _ | refine zq8 ?_ | refine zq7 ?_ _)); exact BK438.out⟩, ⟨by repeat (first | (with_reducible first | exact HB.out | apply zq2 | apply zq1 | apply zqd | refine zq3 ?_ GE437.out | refine zq3 ?_ GE438.out) | exact HB.out)⟩⟩
  ·rw [if_neg c6] at H
   have c6b0 : (a0_0 == a1_0) = false := beq_eq_false_iff_ne.mpr c6
   have c6b1 : (a0_0 != a1_0) = true := bne_iff_ne.mpr c6
   (first | rw [c6b0] | (simp only [i64_w, i32_w]; rw [c6b0]) | skip)
   have H' := Az.mk H
   clear H
   have hnb14 := NB437_438.out
   have hnc14 := NB438_437.out
   have hcz15_0 : w5.cell? ⟨gb437, 0, none⟩ = some (.int .i64 a0_0) := (zq4 BK437.out 0).trans rfl
   have hcz15_1 : w5.cell? ⟨gb437, 1, none⟩ = some (.int .i64 a0_1) := (zq4 BK437.out 1).trans rfl
   have hcz15_2 : w5.cell? ⟨gb437, 2, none⟩ = some (.slice A0_2 l0_2.length c0_2) := (zq4 BK437.out 2).trans rfl
   have hfz15_0 := zq5 BK437.out 0
   have hfz15_1 := zq5 BK437.out 1
   have hfz15_2 := zq5 BK437.out 2
   have hcz16_0 : w5.cell? ⟨gb438, 0, none⟩ = some (.int .i64 a1_0) := (zq4 BK438.out 0).trans rfl
   have hcz16_1 : w5.cell? ⟨gb438, 1, none⟩ = some (.int .i64 a1_1) := (zq4 BK438.out 1).trans rfl
   have hcz16_2 : w5.cell? ⟨gb438, 2, none⟩ = some (.slice A1_2 l1_2.length c1_2) := (zq4 BK438.out 2).trans rfl
   have hfz16_0 := zq5 BK438.out 0
   have hfz16_1 := zq5 BK438.out 1
   have hfz16_2 := zq5 BK438.out 2
   go_wp2
   repeat (go_quiet (fail); try go_wp2)
   go_meet
   case rel => exact ⟨_, (true), (by first | rfl | (simp; done) | (simp [*]; done)), H', ⟨by first | omega | exact Nat.le_refl _⟩, ⟨by (with_reducible repeat (first | refine zq6 ?_ _ | refine zq8 ?_ | refine zq7 ?_ _)); exact BK437.out⟩, ⟨by (with_reducible repeat (first | refine zq6 ?_ _ | refine zq8 ?_ | refine zq7 ?_ _)); exact BK438.out⟩, ⟨by repeat (first | (with_reducible first | exact HB.out | apply zq2 | apply zq1 | apply zqd | refine zq3 ?_ GE437.out | refine zq3 ?_ GE438.out) | exact HB.out)⟩⟩
 case rest =>
  clear HC3
  try clear c1
  try clear p2
  try clear c6
  try clear c6b0
  try clear c6b1
  try clear c7
  try clear c7b0
  try clear c7b1
  try clear c8
  try clear c9
  try clear c11
  try clear c14
  try clear hcz10_0
  try clear hcz10_1
  try clear hcz10_2
  try clear hcz12_0
  try clear hcz12_1
  try clear hcz12_2
  try clear hcz13_0
  try clear hcz13_1
  try clear hcz13_2
  try clear hcz15_0
  try clear hcz15_1
  try clear hcz15_2
  try clear hcz16_0
  try clear hcz16_1
  try clear hcz16_2
  try clear hcz9_0
  try clear hcz9_1
  try clear hcz9_2
  try clear hfz10_0
  try clear hfz10_1
  try clear hfz10_2
  try clear hfz12_0
  try clear hfz12_1
  try clear hfz12_2
  try clear hfz13_0
  try clear hfz13_1
  try clear hfz13_2
  try clear hfz15_0
  try clear hfz15_1
  try clear hfz15_2
  try clear hfz16_0
  try clear hfz16_1
  try clear hfz16_2
  try clear hfz9_0
  try clear hfz9_1
  try clear hfz9_2
  obtain ⟨kq, x26_2, rfl, HA, HJ2, BK437, BK438, HB⟩ := hcut
  cases kq with
  | zero => exact absurd HA.out (by simp [spec_l2Same.j0])
  | succ kj2 =>
   have H := HA.out
   clear HA
   simp only [spec_l2Same.j0] at H
   by_cases c17 : x26_2 = true
   ·subst c17
    have H1 : (some false) = some r := by rw [if_pos rfl] at H; exact H
    clear H
    have H := H1
    clear H1
    obtain rfl := Option.some.inj H
    go_wp2
    repeat (go_quiet (fail); try go_wp2)
    go_ret
    exact ⟨by first | rfl | (simp [errW_none, errW_some] <;> rfl) | (simp [*, errW_none, errW_some] <;> rfl), by repeat (first | (with_reducible first | exact HB.out | apply zq2 | apply zq1 | apply zqd | refine zq3 ?_ GE437.out | refine zq3 ?_ GE438.out) | exact HB.out)⟩
   ·replace c17 := Bool.eq_false_iff.mpr c17
    subst c17
    have H1 : (spec_l2Same.l0 kj2 0 a0_0 a0_1 l0_2 a1_0 a1_1 l1_2) = some r := by rw [if_neg (show ¬ (false = true) by decide)] at H; exact H
    clear H
    have H := H1
    clear H1
    have H' := Az.mk H
    clear H
    go_wp2
    repeat (go_quiet (fail); try go_wp2)
    go_loopg [5] kj2 (fun kq v5 w' => ∃ (x5_2 : Int), v5 = .int .i64 x5_2 ∧ Az (spec_l2Same.l0 kq x5_2 a0_0 a0_1 l0_2 a1_0 a1_1 l1_2 = some r) ∧ Az (kq ≤ kj2) ∧ Az (w'.heap[gb437]? = some (.cells #[.int .i64 a0_0, .int .i64 a0_1, (.slice A0_2 l0_2.length c0_2)] 29 (0, 0))) ∧ Az (w'.heap[gb438]? = some (.cells #[.int .i64 a1_0, .int .i64 a1_1, (.slice A1_2 l1_2.length c1_2)] 29 (0, 0))) ∧ Az (Below w.heap.size w w'))
    case atStart => exact ⟨(0), (by first | rfl | (simp; done) | (simp [*]; done)), H', ⟨Nat.le_refl _⟩, ⟨by (with_reducible repeat (first | refine zq6 ?_ _ | refine zq8 ?_ | refine zq7 ?_ _)); exact BK437.out⟩, ⟨by (with_reducible repeat (first | refine zq6 ?_ _ | refine zq8 ?_ | refine zq7 ?_ _)); exact BK438.out⟩, ⟨by repeat (first | (with_reducible first | exact HB.out | apply zq2 | apply zq1 | apply zqd | refine zq3 ?_ GE437.out | refine zq3 ?_ GE438.out) | exact HB.out)⟩⟩
    case round =>
     clear H'
     try clear c1
     try clear p2
     try clear c6
     try clear c6b0
     try clear c6b1
     try clear c7
     try clear c7b0
     try clear c7b1
     try clear c8
     try clear c9
     try clear c11
     try clear c14
     try clear c17
     try clear hcz10_0
     try clear hcz10_1
     try clear hcz10_2
     try clear hcz12_0
     try clear hcz12_1
     try clear hcz12_2
     try clear hcz13_0
     try clear hcz13_1
     try clear hcz13_2
     try clear hcz15_0
     try clear hcz15_1
     try clear hcz15_2
     try clear hcz16_0
     try clear hcz16_1
     try clear hcz16_2
     try clear hcz9_0
     try clear hcz9_1
     try clear hcz9_2
     try clear hfz10_0
     try clear hfz10_1
     try clear hfz10_2
     try clear hfz12_0
     try clear hfz12_1
     try clear hfz12_2
     try clear hfz13_0
     try clear hfz13_1
     try clear hfz13_2
     try clear hfz15_0
     try clear hfz15_1
     try clear hfz15_2
     try clear hfz16_0
     try clear hfz16_1
     try clear hfz16_2
     try clear hfz9_0
     try clear hfz9_1
     try clear hfz9_2
     try clear p2
     obtain ⟨x5_2, rfl, HA, HK2, BK437, BK438, HB⟩ := hrel
     cases gk with
     | zero => exact absurd HA.out (by simp [spec_l2Same.l0])
     | succ k2 =>
      have H := HA.out
      clear HA
      simp only [spec_l2Same.l0] at H
      by_cases c18 : x5_2 < (l0_2.length : Int)
      ·rw [if_pos c18] at H
       have c18b0 : decide (x5_2 < (l0_2.length : Int)) = true := decide_eq_true c18
       clear c18
       by_cases c19 : 0 ≤ x5_2
       ·rw [if_pos c19] at H
        have c19b0 : decide (0 ≤ x5_2) = true := decide_eq_true c19
        clear c19
        by_cases c20 : x5_2 < (l1_2.length : Int)
        ·rw [if_pos c20] at H
         have c20b0 : decide (x5_2 < (l1_2.length : Int)) = true := decide_eq_true c20
         clear c20
         by_cases c21 : (!(((rd_T37 l0_2 x5_2).f0) == ((rd_T37 l1_2 x5_2).f0)) || (!(((rd_T37 l0_2 x5_2).f1) == ((rd_T37 l1_2 x5_2).f1)))) = true
         ·rw [if_pos c21] at H
          have c21b0 : (!(((rd_T37 l0_2 x5_2).f0) == ((rd_T37 l1_2 x5_2).f0)) || (!(((rd_T37 l0_2 x5_2).f1) == ((rd_T37 l1_2 x5_2).f1)))) = true := c21
          clear c21
          obtain rfl := Option.some.inj H
          have hnb22 := NB437_438.out
          have hnc22 := NB438_437.out
          have hcz23_0 : wr.cell? ⟨gb437, 0, none⟩ = some (.int .i64 a0_0) := (zq4 BK437.out 0).trans rfl
          have hcz23_1 : wr.cell? ⟨gb437, 1, none⟩ = some (.int .i64 a0_1) := (zq4 BK437.out 1).trans rfl
          have hcz23_2 : wr.cell? ⟨gb437, 2, none⟩ = some (.slice A0_2 l0_2.length c0_2) := (zq4 BK437.out 2).trans rfl
          have hfz23_0 := zq5 BK437.out 0
          have hfz23_1 := zq5 BK437.out 1
          have hfz23_2 := zq5 BK437.out 2
          have p439 : 0 ≤ (x5_2 : Int) := of_decide_eq_true (by first | (with_reducible assumption) | assumption)
          have q439 : x5_2 < (l0_2.length : Int) := of_decide_eq_true (by first | (with_reducible assumption) | assumption)
          obtain ⟨ad439, e439, hx439_0, hx439_1⟩ := at_T37 HR0_2.out x5_2 p439 q439
          cases e439
          replace hx439_0 := (HB.out.cell (World.block_lt_of_cell? w _ hx439_0)).trans hx439_0
          replace hx439_1 := (HB.out.cell (World.block_lt_of_cell? w _ hx439_1)).trans hx439_1
          replace p439 := eq_true p439
          replace q439 := eq_true q439
          have hcz24_0 : wr.cell? ⟨gb438, 0, none⟩ = some (.int .i64 a1_0) := (zq4 BK438.out 0).trans rfl
          have hcz24_1 : wr.cell? ⟨gb438, 1, none⟩ = some (.int .i64 a1_1) := (zq4 BK438.out 1).trans rfl
          have hcz24_2 : wr.cell? ⟨gb438, 2, none⟩ = some (.slice A1_2 l1_2.length c1_2) := (zq4 BK438.out 2).trans rfl
          have hfz24_0 := zq5 BK438.out 0
          have hfz24_1 := zq5 BK438.out 1
          have hfz24_2 := zq5 BK438.out 2
          have p440 : 0 ≤ (x5_2 : Int) := of_decide_eq_true (by first | (with_reducible assumption) | assumption)
          have q440 : x5_2 < (l1_2.length : Int) := of_decide_eq_true (by first | (with_reducible assumption) | assumption)
          obtain ⟨ad440, e440, hx440_0, hx440_1⟩ := at_T37 HR1_2.out x5_2 p440 q440
          cases e440
          replace hx440_0 := (HB.out.cell (World.block_lt_of_cell? w _ hx440_0)).trans hx440_0
          replace hx440_1 := (HB.out.cell (World.block_lt_of_cell? w _ hx440_1)).trans hx440_1
          replace p440 := eq_true p440
          replace q440 := eq_true q440
          go_wp2
          repeat (go_quiet (fail); try go_wp2)
          go_ret
          exact ⟨by first | rfl | (simp [errW_none, errW_some] <;> rfl) | (simp [*, errW_none, errW_some] <;> rfl), by repeat (first | (with_reducible first | exact HB.out | apply zq2 | apply zq1 | apply zqd | refine zq3 ?_ GE437.out | refine zq3 ?_ GE438.out) | exact HB.out)⟩
         ·rw [if_neg c21] at H
          have c21b0 : (!(((rd_T37 l0_2 x5_2).f0) == ((rd_T37 l1_2 x5_2).f0)) || (!(((rd_T37 l0_2 x5_2).f1) == ((rd_T37 l1_2 x5_2).f1)))) = false := by simpa using c21
          clear c21
          have H' := Az.mk H
          clear H
          have hnb25 := NB437_438.out
          have hnc25 := NB438_437.out
          have hcz26_0 : wr.cell? ⟨gb437, 0, none⟩ = some (.int .i64 a0_0) := (zq4 BK437.out 0).trans rfl
          have hcz26_1 : wr.cell? ⟨gb437, 1, none⟩ = some (.int .i64 a0_1) := (zq4 BK437.out 1).trans rfl
          have hcz26_2 : wr.cell? ⟨gb437, 2, none⟩ = some (.slice A0_2 l0_2.length c0_2) := (zq4 BK437.out 2).trans rfl
          have hfz26_0 := zq5 BK437.out 0
          have hfz26_1 := zq5 BK437.out 1
          have hfz26_2 := zq5 BK437.out 2
          have p439 : 0 ≤ (x5_2 : Int) := of_decide_eq_true (by first | (with_reducible assumption) | assumption)
          have q439 : x5_2 < (l0_2.length : Int) := of_decide_eq_true (by first | (with_reducible assumption) | assumption)
          obtain ⟨ad439, e439, hx439_0, hx439_1⟩ := at_T37 HR0_2.out x5_2 p439 q439
          cases e439
          replace hx439_0 := (HB.out.cell (World.block_lt_of_cell? w _ hx439_0)).trans hx439_0
          replace hx439_1 := (HB.out.cell (World.block_lt_of_cell? w _ hx439_1)).trans hx439_1
          replace p439 := eq_true p439
          replace q439 := eq_true q439
          have hcz27_0 : wr.cell? ⟨gb438, 0, none⟩ = some (.int .i64 a1_0) := (zq4 BK438.out 0).trans rfl
          have hcz27_1 : wr.cell? ⟨gb438, 1, none⟩ = some (.int .i64 a1_1) := (zq4 BK438.out 1).trans rfl
          have hcz27_2 : wr.cell? ⟨gb438, 2, none⟩ = some (.slice A1_2 l1_2.length c1_2) := (zq4 BK438.out 2).trans rfl
          have hfz27_0 := zq5 BK438.out 0
          have hfz27_1 := zq5 BK438.out 1
          have hfz27_2 := zq5 BK438.out 2
          have p440 : 0 ≤ (x5_2 : Int) := of_decide_eq_true (by first | (with_reducible assumption) | assumption)
          have q440 : x5_2 < (l1_2.length : Int) := of_decide_eq_true (by first | (with_reducible assumption) | assumption)
          obtain ⟨ad440, e440, hx440_0, hx440_1⟩ := at_T37 HR1_2.out x5_2 p440 q440
          cases e440
          replace hx440_0 := (HB.out.cell (World.block_lt_of_cell? w _ hx440_0)).trans hx440_0
          replace hx440_1 := (HB.out.cell (World.block_lt_of_cell? w _ hx440_1)).trans hx440_1
          replace p440 := eq_true p440
          replace q440 := eq_true q440
          go_wp2
          repeat (go_quiet (fail); try go_wp2)
          go_roundg k2
          case measure => have := HJ2.out; have := HK2.out; omega
          case rel => exact ⟨(wrap64 (x5_2 + 1)), (by first | rfl | (simp; done) | (simp [*]; done)), H', ⟨by have := HJ2.out; have := HK2.out; omega⟩, ⟨by (with_reducible repeat (first | refine zq6 ?_ _ | refine zq8 ?_ | refine zq7 ?_ _)); exact BK437.out⟩, ⟨by (with_reducible repeat (first | refine zq6 ?_ _ | refine zq8 ?_ | refine zq7 ?_ _)); exact BK438.out⟩, ⟨by repeat (first | (with_reducible first | exact HB.out | apply zq2 | apply zq1 | apply zqd | refine zq3 ?_ GE437.out | refine zq3 ?_ GE438.out) | exact HB.out)⟩⟩
        ·rw [if_neg c20] at H
         exact absurd H (by simp)
       ·rw [if_neg c19] at H
        exact absurd H (by simp)
      ·rw [if_neg c18] at H
       have c18b0 : decide (x5_2 < (l0_2.length : Int)) = false := decide_eq_false c18
       clear c18
       obtain rfl := Option.some.inj H
       have hnb28 := NB437_438.out
       have hnc28 := NB438_437.out
       have hcz29_0 : wr.cell? ⟨gb437, 0, none⟩ = some (.int .i64 a0_0) := (zq4 BK437.out 0).trans rfl
       have hcz29_1 : wr.cell? ⟨gb437, 1, none⟩ = some (.int .i64 a0_1) := (zq4 BK437.out 1).trans rfl
       have hcz29_2 : wr.cell? ⟨gb437, 2, none⟩ = some (.slice A0_2 l0_2.length c0_2) := (zq4 BK437.out 2).trans rfl
       have hfz29_0 := zq5 BK437.out 0
       have hfz29_1 := zq5 BK437.out 1
       have hfz29_2 := zq5 BK437.out 2
       go_wp2
       repeat (go_quiet (fail); try go_wp2)
       go_ret
       exact ⟨by first | rfl | (simp [errW_none, errW_some] <;> rfl) | (simp [*, errW_none, errW_some] <;> rfl), by repeat (first | (with_reducible first | exact HB.out | apply zq2 | apply zq1 | apply zqd | refine zq3 ?_ GE437.out | refine zq3 ?_ GE438.out) | exact HB.out)⟩
end Go.Proofs.Ytkoimmeghdbodaa.Print
namespace Go.Proofs.Ytkoimmeghdbodaa.Print
open Go.RowKit Go.Proofs.YtkoimmeghdbodaaW.PrintWords Go.Proofs.YtkoimmeghdbodaaW.PrintLast Go.Proofs.YtkoimmeghdbodaaW.PrintMore
attribute [local go_sem] max2_int min2_int max_two min_two max_three min_three max_four min_four
end Go.Proofs.Ytkoimmeghdbodaa.Print
namespace Go.Proofs.Ytkoimmeghdbodaa.Print
open Go.RowKit Go.Proofs.YtkoimmeghdbodaaW.PrintWords Go.Proofs.YtkoimmeghdbodaaW.PrintLast Go.Proofs.YtkoimmeghdbodaaW.PrintMore
attribute [local go_sem] max2_int min2_int max_two min_two max_three min_three max_four min_four
end Go.Proofs.Ytkoimmeghdbodaa.Print
namespace Go.Proofs.Ytkoimmeghdbodaa.Print
open Go.RowKit Go.Proofs.YtkoimmeghdbodaaW.PrintWords Go.Proofs.YtkoimmeghdbodaaW.PrintLast Go.Proofs.YtkoimmeghdbodaaW.PrintMore
attribute [local go_sem] max2_int min2_int max_two min_two max_three min_three max_four min_four
end Go.Proofs.Ytkoimmeghdbodaa.Print
namespace Go.Proofs.Ytkoimmeghdbodaa.Print
open Go.RowKit Go.Proofs.YtkoimmeghdbodaaW.PrintWords Go.Proofs.YtkoimmeghdbodaaW.PrintLast Go.Proofs.YtkoimmeghdbodaaW.PrintMore
attribute [local go_sem] max2_int min2_int max_two min_two max_three min_three max_four min_four
end Go.Proofs.Ytkoimmeghdbodaa.Print
namespace Go.Proofs.Ytkoimmeghdbodaa.Print
open Go.RowKit Go.Proofs.YtkoimmeghdbodaaW.PrintWords Go.Proofs.YtkoimmeghdbodaaW.PrintLast Go.Proofs.YtkoimmeghdbodaaW.PrintMore
attribute [local go_sem] max2_int min2_int max_two min_two max_three min_three max_four min_four
end Go.Proofs.Ytkoimmeghdbodaa.Print
namespace Go.Proofs.Ytkoimmeghdbodaa.Pure
open Go.RowKit Go.Proofs.Ytkoimmeghdbodaa.Print Go.Proofs.YtkoimmeghdbodaaW.PrintWords Go.Proofs.YtkoimmeghdbodaaW.PrintLast
def Fit24 (x : S24) : Prop := x.f2.length ≤ 1048576
def Fit120 (x : S120) : Prop := x.f1.length ≤ 1048576 ∧ ∀ y ∈ x.f1, Fit24 y
structure FitR (l : List S120) : Prop where
  len : l.length ≤ 1048576
  vols : ∀ x ∈ l, Fit120 x
structure FitM (l : List S65) : Prop where
  len : l.length ≤ 1048576
  ptrs : ∀ x ∈ l, x.f1.length ≤ 1048576
  places : ∀ x ∈ l, ∀ y ∈ x.f1, y.f2.length ≤ 1048576
end Go.Proofs.Ytkoimmeghdbodaa.Pure
namespace Go.Proofs.Ytkoimmeghdbodaa.Pure
open Go.RowKit Go.Proofs.Ytkoimmeghdbodaa.Print Go.Proofs.YtkoimmeghdbodaaW.PrintWords Go.Proofs.YtkoimmeghdbodaaW.PrintLast
theorem volB_iff {s : ByteArray} (h : 1 ≤ s.size ∧ s.size ≤ 3) : volB s = true ↔ ∀ j : Nat, j < s.size → letB (bt s (j : Int)) = true := by
  unfold volB
  rw [decide_eq_true h, Bool.true_and, List.all_eq_true]
  exact ⟨fun x j hj => x j (List.mem_range.2 hj), fun x j hj => x j (List.mem_range.1 hj)⟩
theorem l2Name_l0 (s : ByteArray) (h : 1 ≤ s.size ∧ s.size ≤ 3) (d : Nat) : ∀ i : Nat, i + d = s.size → (∀ j : Nat, j < i → letB (bt s (j : Int)) = true) → Ev (fun k => spec_l2Name.l0 k s (i : Int)) (volB s) := by
  induction d with
  | zero =>
    intro i hi hj
    refine Ev.next ?_
    simp only [spec_l2Name.l0]
    exact Ev.neg (by omega) (Ev.ret ((volB_iff h).2 fun j hj2 => hj j (by omega)).symm)
  | succ d ih =>
    intro i hi hj
    have e : wrap64 ((i : Int) + 1) = ((i + 1 : Nat) : Int) := by rw [wrap_ok (by omega)]; omega
    refine Ev.next ?_
    simp only [spec_l2Name.l0, e]
    clear e
    refine Ev.pos (by omega) (Ev.pos (by omega) ?_)
    have bad : letB (bt s (i : Int)) = false → volB s = false := fun hb => by
      rw [Bool.eq_false_iff]
      intro hv
      have := (volB_iff h).1 hv i (by omega)
      rw [hb] at this
      cases this
    by_cases c1 : bt s (i : Int) < 97
    · exact Ev.pos c1 (Ev.ret (bad (decide_eq_false (by omega))).symm)
    · by_cases c2 : bt s (i : Int) > 122
      · exact Ev.neg c1 (Ev.pos c2 (Ev.ret (bad (decide_eq_false (by omega))).symm))
      · refine Ev.neg c1 (Ev.neg c2 (ih (i + 1) (by omega) fun j hj2 => ?_))
        by_cases e : j = i
        · rw [e]; exact decide_eq_true (by omega)
        · exact hj j (by omega)
theorem l2Name_ev (s : ByteArray) : Ev (fun k => spec_l2Name.f k s) (volB s) := by
  unfold spec_l2Name.f
  refine Ev.take (l6In_eq _ _ _) ?_
  by_cases h : 1 ≤ s.size ∧ s.size ≤ 3
  · exact Ev.pos (decide_eq_true (by omega)) (l2Name_l0 s h s.size 0 (Nat.zero_add _) (fun j hj => by omega))
  · exact Ev.neg (by rw [decide_eq_true_iff]; omega) (Ev.ret (vol_long h).symm)
theorem drop_getD {α : Type} (l : List α) (z : α) (i : Nat) (h : i < l.length) : l.drop i = l.getD i z :: l.drop (i + 1) := by
  rw [List.drop_eq_getElem_cons h, List.getD, List.getElem?_eq_getElem h]
  rfl
theorem eq37 (x y : S37) : (x.f0 == y.f0 && (x.f1 == y.f1)) = decide (x = y) := by
  by_cases h : x = y
  · rw [h, decide_eq_true rfl]
    simp
  · rw [decide_eq_false h, Bool.and_eq_false_iff]
    by_cases h0 : x.f0 = y.f0
    · right
      rw [beq_eq_false_iff_ne]
      intro h1
      exact h (by cases x; cases y; simp only at h0 h1; rw [h0, h1])
    · left
      rwa [beq_eq_false_iff_ne]
def meetB (a b : List S37) : Bool := a.any fun x => b.any fun y => decide (x = y)
theorem meetB_iff (a b : List S37) : meetB a b = true ↔ ∃ x, x ∈ a ∧ x ∈ b := by
  unfold meetB
  rw [List.any_eq_true]
  constructor
  · rintro ⟨x, hx, h⟩
    obtain ⟨y, hy, h2⟩ := List.any_eq_true.1 h
    exact ⟨x, hx, by rw [of_decide_eq_true h2]; exact hy⟩
  · rintro ⟨x, hx, h⟩
    exact ⟨x, hx, List.any_eq_true.2 ⟨x, h, decide_eq_true rfl⟩⟩
theorem meet_l1 (s m : Int) (a : List S37) (s2 m2 : Int) (b : List S37) (ha : a.length ≤ 1048576) (hb : b.length ≤ 1048576) (i : Nat) (hi : i < a.length) {r : Bool} (k : Ev (fun k => spec_l2Meet.l0 k ((i + 1 : Nat) : Int) s m a s2 m2 b) r) (d : Nat) :
    ∀ j : Nat, j + d = b.length → Ev (fun k => spec_l2Meet.l1 k (i : Int) (j : Int) s m a s2 m2 b) (((b.drop j).any fun y => decide (a.getD i z37 = y)) || r) := by
  have e : wrap64 ((i : Int) + 1) = ((i + 1 : Nat) : Int) := by rw [wrap_ok (by omega)]; omega
  induction d with
  | zero =>
    intro j hj
    refine Ev.next ?_
    simp only [spec_l2Meet.l1, e]
    clear e
    refine Ev.neg (by omega) ?_
    rw [List.drop_of_length_le (by omega)]
    exact k
  | succ d ih =>
    intro j hj
    have e2 : wrap64 ((j : Int) + 1) = ((j + 1 : Nat) : Int) := by rw [wrap_ok (by omega)]; omega
    have hih := ih (j + 1) (by omega)
    rw [drop_getD b z37 j (by omega), List.any_cons]
    refine Ev.next ?_
    simp only [spec_l2Meet.l1, e2, rd37n, eq37]
    clear e e2
    refine Ev.pos (by omega) (Ev.pos (by omega) (Ev.pos (by omega) (Ev.pos (by omega) ?_)))
    by_cases c : a.getD i z37 = b.getD j z37
    · exact Ev.pos (decide_eq_true c) (Ev.ret (by rw [decide_eq_true c]; rfl))
    · refine Ev.neg (by rw [decide_eq_true_iff]; exact c) ?_
      rw [decide_eq_false c, Bool.false_or]
      exact hih
theorem meet_l0 (s m : Int) (a : List S37) (s2 m2 : Int) (b : List S37) (ha : a.length ≤ 1048576) (hb : b.length ≤ 1048576) (d : Nat) :
    ∀ i : Nat, i + d = a.length → Ev (fun k => spec_l2Meet.l0 k (i : Int) s m a s2 m2 b) (meetB (a.drop i) b) := by
  induction d with
  | zero =>
    intro i hi
    refine Ev.next ?_
    simp only [spec_l2Meet.l0]
    exact Ev.neg (by omega) (Ev.ret (by rw [List.drop_of_length_le (by omega)]; rfl))
  | succ d ih =>
    intro i hi
    have h := meet_l1 s m a s2 m2 b ha hb i (by omega) (ih (i + 1) (by omega)) b.length 0 (Nat.zero_add _)
    rw [List.drop_zero] at h
    refine Ev.next ?_
    simp only [spec_l2Meet.l0]
    refine Ev.pos (by omega) ?_
    unfold meetB at h ⊢
    rw [drop_getD a z37 i (by omega), List.any_cons]
    exact h
theorem meet_ev (a b : S29) (ha : a.f2.length ≤ 1048576) (hb : b.f2.length ≤ 1048576) : Ev (fun k => spec_l2Meet.f k a.f0 a.f1 a.f2 b.f0 b.f1 b.f2) (meetB a.f2 b.f2) := by
  unfold spec_l2Meet.f
  exact meet_l0 a.f0 a.f1 a.f2 b.f0 b.f1 b.f2 ha hb a.f2.length 0 (Nat.zero_add _)
theorem same_l0 (s m : Int) (a : List S37) (s2 m2 : Int) (b : List S37) (ha : a.length ≤ 1048576) (hl : a.length = b.length) (d : Nat) :
    ∀ i : Nat, i + d = a.length → Ev (fun k => spec_l2Same.l0 k (i : Int) s m a s2 m2 b) (decide (a.drop i = b.drop i)) := by
  induction d with
  | zero =>
    intro i hi
    refine Ev.next ?_
    simp only [spec_l2Same.l0]
    exact Ev.neg (by omega) (Ev.ret (by rw [List.drop_of_length_le (by omega), List.drop_of_length_le (by omega), decide_eq_true rfl]))
  | succ d ih =>
    intro i hi
    have e : wrap64 ((i : Int) + 1) = ((i + 1 : Nat) : Int) := by rw [wrap_ok (by omega)]; omega
    have hih := ih (i + 1) (by omega)
    rw [drop_getD a z37 i (by omega), drop_getD b z37 i (by omega)]
    have key : (!((a.getD i z37).f0 == (b.getD i z37).f0) || (!((a.getD i z37).f1 == (b.getD i z37).f1))) = !(decide (a.getD i z37 = b.getD i z37)) := by
      rw [← eq37, Bool.not_and]
    refine Ev.next ?_
    simp only [spec_l2Same.l0, e, rd37n, key]
    clear e key
    refine Ev.pos (by omega) (Ev.pos (by omega) (Ev.pos (by omega) ?_))
    by_cases c : a.getD i z37 = b.getD i z37
    · refine Ev.neg (by rw [decide_eq_true c]; simp) ?_
      rw [c]
      have : (b.getD i z37 :: a.drop (i + 1) = b.getD i z37 :: b.drop (i + 1)) ↔ a.drop (i + 1) = b.drop (i + 1) := by simp
      simp only [this]
      exact hih
    · exact Ev.pos (by rw [decide_eq_false c]; rfl) (Ev.ret (by rw [decide_eq_false]; intro h; exact c (List.cons.inj h).1))
theorem specSame_ev (a b : S29) (ha : a.f2.length ≤ 1048576) : Ev (fun k => spec_l2Same.f k a.f0 a.f1 a.f2 b.f0 b.f1 b.f2) (sameB a b) := by
  unfold spec_l2Same.f sameB
  have bad : Ev (fun k => spec_l2Same.j0 k true a.f0 a.f1 a.f2 b.f0 b.f1 b.f2) false := by
    refine Ev.next ?_
    simp only [spec_l2Same.j0]
    exact Ev.pos trivial (Ev.ret rfl)
  by_cases h0 : a.f0 = b.f0
  · rw [decide_eq_true h0, Bool.true_and]
    refine Ev.pos h0 ?_
    by_cases h1 : a.f1 = b.f1
    · rw [decide_eq_true h1, Bool.true_and]
      refine Ev.pos h1 ?_
      refine Ev.next ?_
      simp only [spec_l2Same.j0]
      by_cases h2 : a.f2.length = b.f2.length
      · refine Ev.neg (by simp [h2]) ?_
        exact same_l0 a.f0 a.f1 a.f2 b.f0 b.f1 b.f2 ha h2 a.f2.length 0 (Nat.zero_add _)
      · refine Ev.pos (by rw [bne_iff_ne]; omega) (Ev.ret ?_)
        rw [decide_eq_false]
        intro h
        exact h2 (by rw [h])
    · rw [decide_eq_false h1, Bool.false_and]
      exact Ev.neg h1 bad
  · rw [decide_eq_false h0, Bool.false_and]
    exact Ev.neg h0 bad
theorem all_l0 (tx : Int) (vs : List S65) (hl : vs.length ≤ 4) (h3 : ∀ x ∈ vs, x.f1.length = 3) (d : Nat) : ∀ i : Nat, i + d = vs.length → Ev (fun k => spec_l2All.l0 k (ptrs (vs.take i)) (i : Int) tx vs) (ptrs vs) := by
  induction d with
  | zero =>
    intro i hi
    refine Ev.next ?_
    simp only [spec_l2All.l0]
    exact Ev.neg (by omega) (Ev.ret (by rw [List.take_of_length_le (by omega)]))
  | succ d ih =>
    intro i hi
    have e : wrap64 ((i : Int) + 1) = ((i + 1 : Nat) : Int) := by rw [wrap_ok (by omega)]; omega
    have hih := ih (i + 1) (by omega)
    have hn : ptrs (vs.take (i + 1)) = ptrs (vs.take i) ++ (vs.getD i z65).f1 := by
      unfold ptrs
      rw [take65 vs i (by omega), List.flatMap_append]
      simp
    rw [hn] at hih
    have hb := h3 _ (getD_mem (z := z65) (i := i) (l := vs) (by omega))
    have hp := ptrs_take_len h3 i (by omega)
    refine Ev.next ?_
    simp only [spec_l2All.l0, e, rd65n]
    clear e
    exact Ev.pos (by omega) (Ev.pos (by omega) (Ev.pos (by omega) hih))
theorem all_ev (tx : Int) (vs : List S65) (hl : vs.length ≤ 4) (h3 : ∀ x ∈ vs, x.f1.length = 3) : Ev (fun k => spec_l2All.f k tx vs) (ptrs vs) := by
  unfold spec_l2All.f
  exact all_l0 tx vs hl h3 vs.length 0 (Nat.zero_add _)
def pairB (p q : S29) : Bool := !meetB p.f2 q.f2 || sameB p q
def ptrAt (n : Int) (ps : List S29) (i : Nat) : Bool := ptrC n (ps.getD i z29) && decide (∀ q, q < i → pairB (ps.getD i z29) (ps.getD q z29) = true)
def nameAt (vs : List S65) (i : Nat) : Bool := volB (vs.getD i z65).f0 && (decide ((vs.getD i z65).f1.length = 3) && decide (∀ q, q < i → (vs.getD q z65).f0.toList ≠ (vs.getD i z65).f0.toList))
def specB (n tx : Int) (vs : List S65) : Bool := decide (3 ≤ n ∧ n ≤ 4) && (decide (0 ≤ tx ∧ tx ≤ 100000) && (decide (vs.length ≤ 4) && (decide (∀ q, q < vs.length → nameAt vs q = true) && decide (∀ t, t < (ptrs vs).length → 0 ≤ t → ptrAt n (ptrs vs) t = true))))
end Go.Proofs.Ytkoimmeghdbodaa.Pure
namespace Go.Proofs.Ytkoimmeghdbodaa.Pure
open Go.RowKit Go.Proofs.Ytkoimmeghdbodaa.Print Go.Proofs.YtkoimmeghdbodaaW.PrintWords Go.Proofs.YtkoimmeghdbodaaW.PrintLast
theorem lastL_append (A B : List (S37 × Nat)) (x : S37) : lastL (A ++ B) x = match lastL B x with | some t => some t | none => lastL A x := by
  refine rev_ind (P := fun B => lastL (A ++ B) x = match lastL B x with | some t => some t | none => lastL A x) ?_ (fun L q ih => ?_) B
  · rw [List.append_nil]
    rfl
  · rw [← List.append_assoc, lastL_snoc, lastL_snoc]
    by_cases e : q.1 = x
    · rw [if_pos e, if_pos e]
    · rw [if_neg e, if_neg e]
      exact ih
theorem lastL_map (x : S37) (t : Nat) (l : List S37) : lastL (l.map fun y => (y, t)) x = if x ∈ l then some t else none := by
  refine rev_ind (P := fun l => lastL (l.map fun y => (y, t)) x = if x ∈ l then some t else none) (by simp [lastL]) (fun l y ih => ?_) l
  rw [List.map_append, List.map_cons, List.map_nil, lastL_snoc, ih]
  by_cases e : y = x
  · subst e
    simp
  · have : x ∈ l ++ [y] ↔ x ∈ l := by
      rw [List.mem_append, List.mem_singleton]
      exact ⟨fun h => h.elim id (fun h => absurd h.symm e), Or.inl⟩
    simp only [this, if_neg e]
theorem pre_succ (ps : List S29) (i : Nat) : preL ps (i + 1) = preL ps i ++ (ps.getD i z29).f2.map fun x => (x, i) := by
  simp only [preL, List.range_succ, List.flatMap_append, List.flatMap_cons, List.flatMap_nil, List.append_nil]
theorem pre_last (ps : List S29) (x : S37) : ∀ i : Nat, match lastL (preL ps i) x with
    | some t => t < i ∧ x ∈ (ps.getD t z29).f2 ∧ ∀ q, t < q → q < i → x ∉ (ps.getD q z29).f2
    | none => ∀ q, q < i → x ∉ (ps.getD q z29).f2 := by
  intro i
  induction i with
  | zero =>
    have : lastL (preL ps 0) x = none := rfl
    rw [this]
    intro q h
    omega
  | succ i ih =>
    rw [pre_succ, lastL_append, lastL_map]
    by_cases c : x ∈ (ps.getD i z29).f2
    · rw [if_pos c]
      exact ⟨by omega, c, fun q h1 h2 => by omega⟩
    · rw [if_neg c]
      cases hL : lastL (preL ps i) x with
      | none =>
        rw [hL] at ih
        intro q hq
        by_cases e : q = i
        · rw [e]; exact c
        · exact ih q (by omega)
      | some t =>
        rw [hL] at ih
        exact ⟨by omega, ih.2.1, fun q h1 h2 => by
          by_cases e : q = i
          · rw [e]; exact c
          · exact ih.2.2 q h1 (by omega)⟩
theorem sameB_iff (a b : S29) : sameB a b = true ↔ a.f0 = b.f0 ∧ a.f1 = b.f1 ∧ a.f2 = b.f2 := by
  unfold sameB
  simp only [Bool.and_eq_true, decide_eq_true_iff]
theorem first_at (x : S37) : ∀ l : List S37, x ∈ l → ∃ j, j < l.length ∧ l.getD j z37 = x ∧ x ∉ l.take j := by
  intro l
  induction l with
  | nil => intro h; simp at h
  | cons y ys ih =>
    intro h
    by_cases e : y = x
    · exact ⟨0, by simp, by simp [e], by simp⟩
    · obtain ⟨j, h1, h2, h3⟩ := ih ((List.mem_cons.1 h).resolve_left (fun h => e h.symm))
      refine ⟨j + 1, by simp; omega, by simpa using h2, ?_⟩
      rw [List.take_succ_cons, List.mem_cons]
      rintro (h | h)
      · exact e h.symm
      · exact h3 h
theorem pairB_iff (p q : S29) : pairB p q = true ↔ ∀ x, x ∈ p.f2 → x ∈ q.f2 → sameB p q = true := by
  unfold pairB
  rw [Bool.or_eq_true, Bool.not_eq_true']
  constructor
  · rintro (h | h) x h1 h2
    · have := (meetB_iff p.f2 q.f2).2 ⟨x, h1, h2⟩
      rw [h] at this
      cases this
    · exact h
  · intro h
    by_cases c : meetB p.f2 q.f2 = true
    · obtain ⟨x, h1, h2⟩ := (meetB_iff p.f2 q.f2).1 c
      exact Or.inr (h x h1 h2)
    · exact Or.inl (by simpa using c)
theorem own_iff (ps : List S29) : implOwn ps = true ↔ ∀ i, i < ps.length → ∀ q, q < i → pairB (ps.getD i z29) (ps.getD q z29) = true := by
  rw [implOwn_iff]
  constructor
  · intro h
    have key : ∀ n i, i < n → i < ps.length → ∀ q, q < i → ∀ x, x ∈ (ps.getD i z29).f2 → x ∈ (ps.getD q z29).f2 → sameB (ps.getD i z29) (ps.getD q z29) = true := by
      intro n
      induction n with
      | zero => intro i h; omega
      | succ n ih =>
        intro i hin hi q hq x hx hxq
        obtain ⟨j, hj, hjx, hjn⟩ := first_at x _ hx
        have hs := (rowOk_iff ps i).1 (h i hi) j hj
        unfold stepOk putL at hs
        rw [hjx, lastL_append, lastL_map, if_neg hjn] at hs
        have hp := pre_last ps x i
        cases hL : lastL (preL ps i) x with
        | none =>
          rw [hL] at hp
          exact absurd hxq (hp q hq)
        | some t =>
          rw [hL] at hp hs
          simp only at hp hs
          by_cases e : q = t
          · rw [e]; exact hs
          · have hlt : q < t := by
              apply Classical.byContradiction
              intro hc
              exact hp.2.2 q (by omega) hq hxq
            have h2 := ih t (by omega) (by omega) q hlt x hp.2.1 hxq
            have a := (sameB_iff _ _).1 hs
            have b := (sameB_iff _ _).1 h2
            exact (sameB_iff _ _).2 ⟨a.1.trans b.1, a.2.1.trans b.2.1, a.2.2.trans b.2.2⟩
    intro i hi q hq
    rw [pairB_iff]
    exact key (i + 1) i (by omega) hi q hq
  · intro h i hi
    rw [rowOk_iff]
    intro j hj
    unfold stepOk
    cases hL : lastL (putL ps i j) ((ps.getD i z29).f2.getD j z37) with
    | none => rfl
    | some t =>
      have hm := putL_mem (lastL_mem hL)
      by_cases e : t = i
      · subst e
        exact (sameB_iff _ _).2 ⟨rfl, rfl, rfl⟩
      · exact (pairB_iff _ _).1 (h i hi t (by have := hm.1; omega)) _ (getD_mem hj) hm.2
theorem take_any (vs : List S65) (i : Nat) (hi : i < vs.length) : (vs.take i).any (fun x : S65 => x.f0.toList == (vs.getD i z65).f0.toList) = false ↔ ∀ q, q < i → (vs.getD q z65).f0.toList ≠ (vs.getD i z65).f0.toList := by
  rw [List.any_eq_false]
  constructor
  · intro h q hq he
    have hm : vs.getD q z65 ∈ vs.take i := by
      rw [List.mem_take_iff_getElem]
      exact ⟨q, by omega, by simp [List.getD, show q < vs.length by omega]⟩
    exact h _ hm (by rw [he]; simp)
  · intro h x hx he
    rw [List.mem_take_iff_getElem] at hx
    obtain ⟨q, hq, rfl⟩ := hx
    have := h q (by omega)
    apply this
    simp only [List.getD, show q < vs.length by omega, getElem?_pos, Option.getD_some] at he ⊢
    exact beq_iff_eq.1 he
theorem volAt_iff (n : Int) (vs : List S65) (i : Nat) (hi : i < vs.length) : volAt n vs i = true ↔ nameAt vs i = true ∧ ∀ p ∈ (vs.getD i z65).f1, ptrC n p = true := by
  unfold volAt nameAt
  simp only [Bool.and_eq_true, decide_eq_true_iff, Bool.not_eq_true']
  rw [take_any vs i hi, List.any_eq_false]
  constructor
  · rintro ⟨⟨h1, h2⟩, h3, h4⟩
    exact ⟨⟨h1, h2, h3⟩, fun p hp => by simpa using h4 p hp⟩
  · rintro ⟨⟨h1, h2, h3⟩, h4⟩
    exact ⟨⟨h1, h2⟩, h3, fun p hp => by rw [h4 p hp]; simp⟩
theorem rootB_eq (n tx : Int) (vs : List S65) : rootB n tx vs = specB n tx vs := by
  rw [Bool.eq_iff_iff]
  unfold rootB specB
  simp only [Bool.and_eq_true, decide_eq_true_iff]
  constructor
  · rintro ⟨hn, ht0, ht1, hv, ho⟩
    have hg := vols_good hv
    have ho := (own_iff _).1 ho
    unfold volsB at hv
    rw [Bool.and_eq_true, List.all_eq_true] at hv
    refine ⟨hn, ⟨ht0, ht1⟩, hg.1, fun q hq => ((volAt_iff n vs q hq).1 (hv.1 q (List.mem_range.2 hq))).1, fun t ht _ => ?_⟩
    unfold ptrAt
    rw [hg.2.2 _ (getD_mem ht), Bool.true_and, decide_eq_true_iff]
    exact ho t ht
  · rintro ⟨hn, ⟨ht0, ht1⟩, hl, hv, hp⟩
    have hp2 : ∀ p ∈ ptrs vs, ptrC n p = true := fun p hpm => by
      obtain ⟨t, ht, rfl⟩ := List.getElem_of_mem hpm
      have := hp t ht (Nat.zero_le _)
      unfold ptrAt at this
      rw [Bool.and_eq_true] at this
      simpa [List.getD, ht] using this.1
    refine ⟨hn, ht0, ht1, ?_, (own_iff _).2 fun t ht => ?_⟩
    · unfold volsB
      rw [Bool.and_eq_true, List.all_eq_true, decide_eq_true_iff]
      refine ⟨fun q hq => ?_, hl⟩
      have hq := List.mem_range.1 hq
      exact (volAt_iff n vs q hq).2 ⟨hv q hq, fun p hpm => hp2 p (List.mem_flatMap.2 ⟨_, getD_mem hq, hpm⟩)⟩
    · have := hp t ht (Nat.zero_le _)
      unfold ptrAt at this
      rw [Bool.and_eq_true, decide_eq_true_iff] at this
      exact this.2
end Go.Proofs.Ytkoimmeghdbodaa.Pure
namespace Go.Proofs.Ytkoimmeghdbodaa.Print
open Go.RowKit Go.Proofs.YtkoimmeghdbodaaW.PrintWords Go.Proofs.YtkoimmeghdbodaaW.PrintLast Go.Proofs.YtkoimmeghdbodaaW.PrintMore
attribute [local go_sem] max2_int min2_int max_two min_two max_three min_three max_four min_four
end Go.Proofs.Ytkoimmeghdbodaa.Print
namespace Go.Proofs.Ytkoimmeghdbodaa.Pure
open Go.RowKit Go.Lib Go.Sort Go.Proofs.Ytkoimmeghdbodaa.Print Go.Proofs.YtkoimmeghdbodaaW.PrintWords Go.Proofs.YtkoimmeghdbodaaW.PrintLast
theorem ltPl_iff (x y : S37) : ltPl x y = true ↔ x.f0 < y.f0 ∨ (x.f0 = y.f0 ∧ x.f1 < y.f1) := by
  unfold ltPl
  rw [decide_eq_true_iff]
theorem ltPl_trans {x y z : S37} (h1 : ltPl x y = true) (h2 : ltPl y z = true) : ltPl x z = true := by
  rw [ltPl_iff] at *
  omega
theorem ltPl_of_le {x y : S37} (h : ltPl y x = false) (hne : x ≠ y) : ltPl x y = true := by
  rw [Bool.eq_false_iff, Ne, ltPl_iff] at h
  rw [ltPl_iff]
  apply Classical.byContradiction
  intro hc
  apply hne
  cases x; cases y
  simp only at h hc
  simp only [S37.mk.injEq]
  omega
theorem strict_unique : ∀ (l m : List S37), l.Pairwise (fun x y => ltPl x y = true) → m.Pairwise (fun x y => ltPl x y = true) → (∀ x, x ∈ l ↔ x ∈ m) → l = m
  | [], [], _, _, _ => rfl
  | [], b :: m, _, _, h => absurd ((h b).2 (by simp)) (by simp)
  | a :: l, [], _, _, h => absurd ((h a).1 (by simp)) (by simp)
  | a :: l, b :: m, hl, hm, h => by
    have hl := List.pairwise_cons.1 hl
    have hm := List.pairwise_cons.1 hm
    have irr : ∀ x : S37, ltPl x x = false := fun x => by rw [Bool.eq_false_iff, Ne, ltPl_iff]; omega
    have eab : a = b := by
      rcases List.mem_cons.1 ((h a).1 (by simp)) with e | e
      · exact e
      · rcases List.mem_cons.1 ((h b).2 (by simp)) with e2 | e2
        · exact e2.symm
        · have := ltPl_trans (hm.1 a e) (hl.1 b e2)
          rw [irr] at this
          cases this
    subst eab
    have := strict_unique l m hl.2 hm.2 (fun x => by
      constructor
      · intro hx
        rcases List.mem_cons.1 ((h x).1 (List.mem_cons_of_mem _ hx)) with e | e
        · have := hl.1 x hx
          rw [e, irr] at this
          cases this
        · exact e
      · intro hx
        rcases List.mem_cons.1 ((h x).2 (List.mem_cons_of_mem _ hx)) with e | e
        · have := hm.1 x hx
          rw [e, irr] at this
          cases this
        · exact e)
    rw [this]
theorem sortPl_mem (l : List S37) (x : S37) : x ∈ sortPl l.toArray ↔ x ∈ l := by
  unfold sortPl
  rw [List.mem_mergeSort]
theorem sortPl_sorted (l : List S37) : (sortPl l.toArray).Pairwise (fun x y => ltPl y x = false) := by
  unfold sortPl
  have h := List.pairwise_mergeSort (le := fun x y : S37 => !ltPl y x) (fun a b c h1 h2 => by
    simp only [Bool.not_eq_true'] at *
    rw [Bool.eq_false_iff, Ne, ltPl_iff] at *
    omega) (fun a b => by
    cases h1 : ltPl b a
    · rfl
    · cases h2 : ltPl a b
      · rfl
      · rw [ltPl_iff] at h1 h2
        omega) l
  exact h.imp (fun h => by simpa using h)
theorem compact_mem (d : Array S37) (x : S37) : ∀ m : Nat, m ≤ d.size → (x ∈ compactUpTo d m ↔ ∃ j, j < m ∧ d[j]! = x) := by
  intro m
  induction m with
  | zero => intro _; simp [compactUpTo]
  | succ m ih =>
    intro hm
    rw [compactUpTo_succ, List.mem_append, ih (by omega)]
    constructor
    · rintro (⟨j, h1, h2⟩ | h)
      · exact ⟨j, by omega, h2⟩
      · by_cases c : keeps d m = true
        · rw [if_pos c] at h
          exact ⟨m, by omega, (List.mem_singleton.1 h).symm⟩
        · rw [if_neg c] at h
          simp at h
    · rintro ⟨j, h1, h2⟩
      by_cases e : j < m
      · exact Or.inl ⟨j, e, h2⟩
      · have e : j = m := by omega
        subst e
        by_cases c : keeps d j = true
        · rw [if_pos c]
          exact Or.inr (by rw [h2]; simp)
        · left
          unfold keeps at c
          rw [decide_eq_true_iff] at c
          have c1 : j ≠ 0 := fun h => c (Or.inl h)
          have c2 : d[j]! = d[j - 1]! := Classical.byContradiction fun h => c (Or.inr h)
          exact ⟨j - 1, by omega, by rw [← c2]; exact h2⟩
theorem compact_strict (d : Array S37) (hs : ∀ i j, i < j → j < d.size → ltPl d[j]! d[i]! = false) : ∀ m : Nat, m ≤ d.size → (compactUpTo d m).Pairwise (fun x y => ltPl x y = true) := by
  intro m
  induction m with
  | zero => intro _; simp [compactUpTo]
  | succ m ih =>
    intro hm
    rw [compactUpTo_succ]
    by_cases c : keeps d m = true
    · rw [if_pos c, List.pairwise_append]
      refine ⟨ih (by omega), by simp, fun x hx y hy => ?_⟩
      rw [List.mem_singleton.1 hy]
      obtain ⟨j, hj, rfl⟩ := (compact_mem d x m (by omega)).1 hx
      unfold keeps at c
      rw [decide_eq_true_iff] at c
      have c2 := c.resolve_left (by omega)
      have h1 := ltPl_of_le (hs (m - 1) m (by omega) (by omega)) (fun e => c2 e.symm)
      by_cases e : j = m - 1
      · rw [e]; exact h1
      · by_cases e2 : d[j]! = d[m - 1]!
        · rw [e2]; exact h1
        · exact ltPl_trans (ltPl_of_le (hs j (m - 1) (by omega) (by omega)) e2) h1
    · rw [if_neg c, List.append_nil]
      exact ih (by omega)
theorem compactPl_mem (l : List S37) (x : S37) : x ∈ compactPl l ↔ x ∈ l := by
  unfold compactPl
  have e : (sortPl l.toArray).toArray.size = (sortPl l.toArray).length := by simp
  rw [compact_mem _ _ _ (by rw [e]; exact Nat.le_refl _), ← sortPl_mem l x, List.mem_iff_getElem]
  constructor
  · rintro ⟨j, h1, h2⟩
    exact ⟨j, h1, by rw [← h2, getElem!_pos _ j (by simpa using h1)]; simp⟩
  · rintro ⟨j, h1, h2⟩
    exact ⟨j, h1, by rw [← h2, getElem!_pos _ j (by simpa using h1)]; simp⟩
theorem compactPl_strict (l : List S37) : (compactPl l).Pairwise (fun x y => ltPl x y = true) := by
  unfold compactPl
  have hsz : (sortPl l.toArray).toArray.size = (sortPl l.toArray).length := by simp
  refine compact_strict _ (fun i j h1 h2 => ?_) _ (by simp)
  have h := List.pairwise_iff_getElem.1 (sortPl_sorted l) i j (by simp at h2; omega) (by simpa using h2) h1
  rw [getElem!_pos _ i (by omega), getElem!_pos _ j h2]
  simpa using h
def gr (k : Nat) : S37 := ⟨((k / 12 : Nat) : Int), ((k % 12 : Nat) : Int)⟩
def hit (ps : List S29) (p : S37) : Bool := ps.any fun q => meetB [p] q.f2
def gridF (ps : List S29) (k : Nat) : List S37 := ((List.range k).map gr).filter (hit ps)
theorem gridF_len (ps : List S29) (k : Nat) : (gridF ps k).length ≤ k := by
  unfold gridF
  exact Nat.le_trans (List.length_filter_le _ _) (by simp)
theorem gr_lt {i j : Nat} (h : i < j) : ltPl (gr i) (gr j) = true := by
  rw [ltPl_iff]
  unfold gr
  simp only
  omega
theorem gridF_strict (ps : List S29) (k : Nat) : (gridF ps k).Pairwise (fun x y => ltPl x y = true) := by
  unfold gridF
  refine List.Pairwise.filter _ ?_
  rw [List.pairwise_map]
  exact List.pairwise_lt_range.imp (fun h => gr_lt h)
theorem hit_iff (ps : List S29) (p : S37) : hit ps p = true ↔ p ∈ placesAll ps := by
  unfold hit placesAll
  rw [List.any_eq_true, List.mem_flatMap]
  constructor
  · rintro ⟨q, hq, h⟩
    obtain ⟨x, h1, h2⟩ := (meetB_iff _ _).1 h
    rw [List.mem_singleton.1 h1] at h2
    exact ⟨q, hq, h2⟩
  · rintro ⟨q, hq, h⟩
    exact ⟨q, hq, (meetB_iff _ _).2 ⟨p, by simp, h⟩⟩
theorem gr_at {n : Int} {p : S37} (h : PlaceIn n p) : ∃ k : Nat, (k : Int) < 12 * n ∧ gr k = p := by
  obtain ⟨⟨h0, h1⟩, h2, h3⟩ := h
  refine ⟨p.f0.toNat * 12 + p.f1.toNat, by omega, ?_⟩
  unfold gr
  cases p
  simp only at *
  simp only [S37.mk.injEq]
  omega
theorem rootPl_grid (n tx : Int) (vs : List S65) (h : rootB n tx vs = true) : rootPl n tx vs = gridF (ptrs vs) (12 * n).toNat := by
  unfold rootPl
  rw [if_pos h]
  unfold rootB at h
  simp only [Bool.and_eq_true, decide_eq_true_iff] at h
  have hg := vols_good h.2.2.2.1
  refine strict_unique _ _ (compactPl_strict _) (gridF_strict _ _) fun x => ?_
  rw [compactPl_mem, ← hit_iff]
  unfold gridF
  rw [List.mem_filter, List.mem_map]
  refine ⟨fun hx => ⟨?_, hx⟩, fun hx => hx.2⟩
  obtain ⟨q, hq, hxq⟩ := List.mem_flatMap.1 ((hit_iff _ _).1 hx)
  have hpg := (of_decide_eq_true (hg.2.2 q hq)).2
  have hin : PlaceIn n x := by
    rcases hpg with hh | hh
    · rw [List.eq_nil_of_length_eq_zero hh.2.2] at hxq
      simp at hxq
    · obtain ⟨i, hi, rfl⟩ := List.getElem_of_mem hxq
      have := (hh.2.2.2 i hi).1
      simpa [plAt, List.getD, hi] using this
  obtain ⟨k, hk, e⟩ := gr_at hin
  exact ⟨k, List.mem_range.2 (by omega), e⟩
end Go.Proofs.Ytkoimmeghdbodaa.Pure
namespace Go.Proofs.Ytkoimmeghdbodaa.Print
open Go.RowKit Go.Proofs.YtkoimmeghdbodaaW.PrintWords Go.Proofs.YtkoimmeghdbodaaW.PrintLast Go.Proofs.YtkoimmeghdbodaaW.PrintMore
attribute [local go_sem] max2_int min2_int max_two min_two max_three min_three max_four min_four
attribute [local go_sem high] eqA37
end Go.Proofs.Ytkoimmeghdbodaa.Print
namespace Go.Proofs.Ytkoimmeghdbodaa.Print
open Go.RowKit Go.Proofs.YtkoimmeghdbodaaW.PrintWords Go.Proofs.YtkoimmeghdbodaaW.PrintLast Go.Proofs.YtkoimmeghdbodaaW.PrintMore
attribute [local go_sem] max2_int min2_int max_two min_two max_three min_three max_four min_four
end Go.Proofs.Ytkoimmeghdbodaa.Print
namespace Go.Proofs.Ytkoimmeghdbodaa.Pure
open Go.RowKit Go.Lib Go.Sort Go.Proofs.Ytkoimmeghdbodaa.Print Go.Proofs.YtkoimmeghdbodaaW.PrintWords Go.Proofs.YtkoimmeghdbodaaW.PrintLast
theorem rootPl_mem {n tx : Int} {vs : List S65} (h : rootB n tx vs = true) (x : S37) : x ∈ rootPl n tx vs ↔ x ∈ placesAll (ptrs vs) := by
  unfold rootPl
  rw [if_pos h, compactPl_mem]
section
variable {n txa txb : Int} {la lb : List S65} (ea : rootB n txa la = true) (eb : rootB n txb lb = true) (hFa : FitM la) (hFb : FitM lb)
include ea eb hFa hFb
end
end Go.Proofs.Ytkoimmeghdbodaa.Pure
namespace Go.Proofs.Ytkoimmeghdbodaa.Print
open Go.RowKit Go.Lib Go.Maps Go.WideMaps Go.Proofs.YtkoimmeghdbodaaW.PrintWords Go.Proofs.YtkoimmeghdbodaaW.PrintLast Go.Proofs.YtkoimmeghdbodaaW.PrintMore Go.Proofs.Ytkoimmeghdbodaa.Pure
theorem keepS {w w' : World} {a1 a2 a3 b1 b2 b3 : Addr} {u1 u2 u3 v1 v2 v3 : Value} (hb : Below w.heap.size w w') (h : (w.cell? a1 = some u1 ∧ w.cell? a2 = some u2 ∧ w.cell? a3 = some u3) ∧ (w.cell? b1 = some v1 ∧ w.cell? b2 = some v2 ∧ w.cell? b3 = some v3)) :
    (w'.cell? a1 = some u1 ∧ w'.cell? a2 = some u2 ∧ w'.cell? a3 = some u3) ∧ (w'.cell? b1 = some v1 ∧ w'.cell? b2 = some v2 ∧ w'.cell? b3 = some v3) := by
  have k : ∀ {a : Addr} {u : Value}, w.cell? a = some u → w'.cell? a = some u := fun h => (Below.cell hb (World.block_lt_of_cell? _ _ h)).trans h
  exact ⟨⟨k h.1.1, k h.1.2.1, k h.1.2.2⟩, k h.2.1, k h.2.2.1, k h.2.2.2⟩
def namesB (vs : List S65) : Bool := decide (∀ q, q < vs.length → nameAt vs q = true)
def ptrsB (n : Int) (ps : List S29) : Bool := decide (∀ t, t < ps.length → 0 ≤ t → ptrAt n ps t = true)
theorem namesB_no {vs : List S65} {i : Nat} (hi : i < vs.length) (h : nameAt vs i = false) : namesB vs = false := by
  unfold namesB
  rw [decide_eq_false]
  intro h2
  rw [h2 i hi] at h
  cases h
theorem ptrsB_no {n : Int} {ps : List S29} {i : Nat} (hi : i < ps.length) (h : ptrAt n ps i = false) : ptrsB n ps = false := by
  unfold ptrsB
  rw [decide_eq_false]
  intro h2
  rw [h2 i hi (Nat.zero_le _)] at h
  cases h
theorem eqStr (a b : ByteArray) : (a = b) ↔ a.toList = b.toList := by
  rw [ByteArray.toList_eq, ByteArray.toList_eq]
  constructor
  · intro h
    rw [h]
  · intro h
    exact ByteArray.ext (Array.ext' h)
set_option maxHeartbeats 16000000 in
set_option maxRecDepth 100000 in
theorem sVols_call (n tx : Int) (hn : 3 ≤ n ∧ n ≤ 4) (A0 : Option Addr) (c0 : Nat) (l0 : List S65) (w : World) (hr0 : Kd.C k65 w A0 l0.length l0) (hc0 : l0.length ≤ c0) (hF : FitM l0) (hl : l0.length ≤ 4) :
    Calls Try.prog 76 #[.int .i64 n, .agg #[.int .i64 tx, .slice A0 l0.length c0]] w fun e w' => e = .returned (.bool (namesB l0 && ptrsB n (ptrs l0))) ∧ Below w.heap.size w w' := by
  have hu57 := Try.underlying57
  have hu65 := Try.underlying65
  have hu29 := Try.underlying29
  have mixed : Try.prog.follows Departure.mixedOrders = true := by kernel_rfl
  have HB := Az.mk (Below.refl w.heap.size w)
  have HR := Az.mk hr0
  have HCC := Az.mk hc0
  have HF := Az.mk hF
  have HL := Az.mk hl
  have HN := Az.mk hn
  clear hr0 hc0 hF hl hn
  go_enter Try.func76, Try.ntmps76
  go_wp2_with (first | ((with_reducible refine zqg (N := 3) rfl ?_); refine zqb ?hg (N := 3) ?hd (cs := #[.int .i64 tx, .slice A0 l0.length c0]) (t := 57) ?hr ?_; (case hd => rfl); (case hg => rfl); (case hr => first | (go_simp; done) | (go_simp; rfl)); intro gb hg w5 hbox hb; have n0_ := Az.mk (below_step zB hb); have BR := Az.mk (show Blk w5 gb #[.int .i64 tx, .slice A0 l0.length c0] 57 from hbox); clear HB; have HB := n0_; clear n0_ hbox hb hg; have hcz_0 := (BR.out.cell 0).trans rfl; have hcz_1 := (BR.out.cell 1).trans rfl) | go_in)
  clear hcz_0 hcz_1
  go_loopg [5] l0.length (fun kq v5 wr => ∃ (i : Nat), v5 = .int .i64 (i : Int) ∧ Az (i + kq = l0.length) ∧ Az (∀ q, q < i → nameAt l0 q = true) ∧ Az (Blk wr gb #[.int .i64 tx, .slice A0 l0.length c0] 57) ∧ Az (Below w.heap.size w wr))
  case atStart => exact ⟨0, rfl, ⟨Nat.zero_add _⟩, ⟨fun q h => by omega⟩, BR, HB⟩
  case round =>
    obtain ⟨i, rfl, HI, HQ, BR, HB⟩ := hrel
    have hcz_0 := (BR.out.cell 0).trans rfl
    have hcz_1 := (BR.out.cell 1).trans rfl
    by_cases e1 : i < l0.length
    · have e1b : decide ((i : Int) < (l0.length : Int)) = true := decide_eq_true (by omega)
      have p1 := eq_true (show (0 : Int) ≤ (i : Int) by omega)
      have q1 := eq_true (show (i : Int) < (l0.length : Int) by omega)
      have HE1 := Az.mk e1
      obtain ⟨ad, A1, c1, eA, hx_0, hx_1, hl1, hi1⟩ := at_T65 (Kd.C_below HR.out HB.out) (i : Int) (by omega) (by omega)
      subst eA
      simp only [Int.toNat_natCast, rd_T65] at hx_0 hx_1
      obtain ⟨x, hX⟩ : ∃ x, x = l0.getD i z65 := ⟨_, rfl⟩
      rw [← hX] at hx_0 hx_1
      have HX := Az.mk hX
      obtain ⟨kn, hkn⟩ := Ev.rounds (l2Name_ev x.f0)
      have HNM := Az.mk (fun W => spec_l2Name.calls kn x.f0 (volB x.f0) W hkn)
      clear hX hl1 hi1 hkn e1
      cases hv : volB x.f0 with
      | false =>
        rw [hv] at HNM
        have HNO : Az (namesB l0 = false) := ⟨namesB_no HE1.out (by unfold nameAt; rw [← HX.out, hv]; rfl)⟩
        clear hv
        go_wp2_with (first | (go_at_call 98; refine (HNM.out _).mono ?_; rintro e w23 ⟨rfl, hd⟩; have hb := hd.below; have BR2 := Az.mk (BR.out.below hb); have HB2 := Az.mk (HB.out.trans (hb.mono HB.out.size)); clear BR HB hcz_0 hcz_1; have BR := BR2; have HB := HB2; clear BR2 HB2; have hcz_0 := (BR.out.cell 0).trans rfl; have hcz_1 := (BR.out.cell 1).trans rfl; have h0_ := (Below.cell hb (World.block_lt_of_cell? _ _ hx_0)).trans hx_0; have h1_ := (Below.cell hb (World.block_lt_of_cell? _ _ hx_1)).trans hx_1; clear hx_0 hx_1; have hx_0 := h0_; have hx_1 := h1_; clear h0_ h1_; clear hb hd) | go_in)
        go_ret
        exact ⟨by rw [HNO.out]; rfl, HB.out⟩
      | true =>
        rw [hv] at HNM
        by_cases h3 : x.f1.length = 3
        · have h3b : decide ((x.f1.length : Int) = 3) = true := decide_eq_true (by omega)
          have h3c : ((x.f1.length : Int) == 3) = true := by rw [beq_iff_eq]; omega
          have h3d : ((x.f1.length : Int) = 3) := by omega
          have HV := Az.mk hv
          have H3 := Az.mk h3
          have HWi : Az (wrap64 ((i : Int) + 1) = ((i + 1 : Nat) : Int)) := ⟨by rw [Pure.wrap_ok (by have := HL.out; have := HE1.out; omega)]; omega⟩
          obtain ⟨go, hgo⟩ : ∃ go, go = gk := ⟨_, rfl⟩
          subst hgo
          clear hv h3
          go_wp2_with (first | (go_at_call 98; refine (HNM.out _).mono ?_; rintro e w23 ⟨rfl, hd⟩; have hb := hd.below; have BR2 := Az.mk (BR.out.below hb); have HB2 := Az.mk (HB.out.trans (hb.mono HB.out.size)); clear BR HB hcz_0 hcz_1; have BR := BR2; have HB := HB2; clear BR2 HB2; have hcz_0 := (BR.out.cell 0).trans rfl; have hcz_1 := (BR.out.cell 1).trans rfl; have h0_ := (Below.cell hb (World.block_lt_of_cell? _ _ hx_0)).trans hx_0; have h1_ := (Below.cell hb (World.block_lt_of_cell? _ _ hx_1)).trans hx_1; clear hx_0 hx_1; have hx_0 := h0_; have hx_1 := h1_; clear h0_ h1_; clear hb hd) | go_in)
          clear hx_0 hx_1 h3b h3c h3d hcz_0 hcz_1
          go_loopg [6] i (fun kq v6 wr => ∃ (j : Nat), v6 = .int .i64 (j : Int) ∧ Az (j + kq = i) ∧ Az (∀ q, q < j → (l0.getD q z65).f0.toList ≠ x.f0.toList) ∧ Az (Blk wr gb #[.int .i64 tx, .slice (some ad) l0.length c0] 57) ∧ Az (Below w.heap.size w wr))
          case atStart => exact ⟨0, rfl, ⟨Nat.zero_add _⟩, ⟨fun q h => by omega⟩, BR, HB⟩
          case round =>
            obtain ⟨j, rfl, HJ, HD, BR, HB⟩ := hrel
            have hcz_0 := (BR.out.cell 0).trans rfl
            have hcz_1 := (BR.out.cell 1).trans rfl
            by_cases e2 : j < i
            · have e2b : decide ((j : Int) < (i : Int)) = true := decide_eq_true (by omega)
              have p2 := eq_true (show (0 : Int) ≤ (j : Int) by omega)
              have q2 := eq_true (show (j : Int) < (l0.length : Int) by have := HE1.out; omega)
              have HE2 := Az.mk e2
              have HWj : Az (wrap64 ((j : Int) + 1) = ((j + 1 : Nat) : Int)) := ⟨by rw [Pure.wrap_ok (by have := HL.out; have := HE1.out; omega)]; omega⟩
              obtain ⟨_, _, _, eA, hx_0, _, _, _⟩ := at_T65 (Kd.C_below HR.out HB.out) (i : Int) (by omega) (by have := HE1.out; omega)
              cases eA
              obtain ⟨_, _, _, eA, hy_0, _, _, _⟩ := at_T65 (Kd.C_below HR.out HB.out) (j : Int) (by omega) (by have := HE1.out; omega)
              cases eA
              simp only [Int.toNat_natCast, rd_T65] at hx_0 hy_0
              rw [← HX.out] at hx_0
              obtain ⟨y, hY⟩ : ∃ y, y = l0.getD j z65 := ⟨_, rfl⟩
              rw [← hY] at hy_0
              have HY := Az.mk hY
              have HDR : Az (Below wr.heap.size wr wr.drew) := ⟨(Below.refl _ _).drew⟩
              clear hY
              cases esd : (y.f0.toList == x.f0.toList) with
              | true =>
                have es := beq_iff_eq.1 esd
                have ES : y.f0 = x.f0 := (eqStr _ _).2 es
                have HNO : Az (namesB l0 = false) := ⟨namesB_no HE1.out (by
                  unfold nameAt
                  rw [← HX.out, Bool.and_eq_false_iff, Bool.and_eq_false_iff, decide_eq_false_iff_not, decide_eq_false_iff_not]
                  exact Or.inr (Or.inr fun h => h j HE2.out (by rw [← HY.out]; exact es)))⟩
                clear es ES
                go_wp2_with fail
                refine start_ (n := 13) (S := fun w' => (w'.cell? ⟨gb, 0, none⟩ = some (.int .i64 tx) ∧ w'.cell? ⟨gb, 1, none⟩ = some (.slice (some ad) l0.length c0)) ∧ w'.cell? (ad.add (i * 2)) = some (.string x.f0) ∧ w'.cell? (ad.add (j * 2)) = some (.string y.f0)) (ds := []) (bm 13 0) (by kernel_rfl) rfl rfl (⟨⟨hcz_0, hcz_1⟩, hx_0, hy_0⟩) (fun hHeld => ?_)
                refine zP 0 (some 40) (bm 13 1) ?_
                refine zP 2 (some 42) (bm 13 5) ?_
                refine zP 6 (some 46) (bm 13 69) ?_
                refine zP 8 (some 48) (bm 13 325) ?_
                refine zU 1 (some 41) (bm 13 327) rfl hHeld (Or.inl ⟨by rfl, by rintro w' ⟨⟨s0, s1⟩, s2, s3⟩; go_simp; with_reducible rfl⟩) ?_
                refine zP 3 (some 43) (bm 13 335) ?_
                refine zP 4 (some 44) (bm 13 351) ?_
                refine zU 5 (some 45) (bm 13 383) rfl hHeld (Or.inl ⟨by rfl, by rintro w' ⟨⟨s0, s1⟩, s2, s3⟩; go_simp; with_reducible rfl⟩) ?_
                refine zU 7 (some 47) (bm 13 511) rfl hHeld (Or.inl ⟨by rfl, by rintro w' ⟨⟨s0, s1⟩, s2, s3⟩; go_simp; with_reducible rfl⟩) ?_
                refine zP 9 (some 49) (bm 13 1023) ?_
                refine zP 10 (some 50) (bm 13 2047) ?_
                refine zU 11 (some 51) (bm 13 4095) rfl hHeld (Or.inl ⟨by rfl, by rintro w' ⟨⟨s0, s1⟩, s2, s3⟩; go_simp; with_reducible rfl⟩) ?_
                refine zP 12 (some 52) (bm 13 8191) ?_
                refine done_ (by kernel_rfl) ?_
                go_wp2
                go_ret
                exact ⟨by rw [HNO.out]; rfl, HB.out.trans (HDR.out.mono HB.out.size)⟩
              | false =>
                have HES := Az.mk (beq_eq_false_iff_ne.1 esd)
                go_wp2_with fail
                refine start_ (n := 13) (S := fun w' => (w'.cell? ⟨gb, 0, none⟩ = some (.int .i64 tx) ∧ w'.cell? ⟨gb, 1, none⟩ = some (.slice (some ad) l0.length c0)) ∧ w'.cell? (ad.add (i * 2)) = some (.string x.f0) ∧ w'.cell? (ad.add (j * 2)) = some (.string y.f0)) (ds := []) (bm 13 0) (by kernel_rfl) rfl rfl (⟨⟨hcz_0, hcz_1⟩, hx_0, hy_0⟩) (fun hHeld => ?_)
                refine zP 0 (some 40) (bm 13 1) ?_
                refine zP 2 (some 42) (bm 13 5) ?_
                refine zP 6 (some 46) (bm 13 69) ?_
                refine zP 8 (some 48) (bm 13 325) ?_
                refine zU 1 (some 41) (bm 13 327) rfl hHeld (Or.inl ⟨by rfl, by rintro w' ⟨⟨s0, s1⟩, s2, s3⟩; go_simp; with_reducible rfl⟩) ?_
                refine zP 3 (some 43) (bm 13 335) ?_
                refine zP 4 (some 44) (bm 13 351) ?_
                refine zU 5 (some 45) (bm 13 383) rfl hHeld (Or.inl ⟨by rfl, by rintro w' ⟨⟨s0, s1⟩, s2, s3⟩; go_simp; with_reducible rfl⟩) ?_
                refine zU 7 (some 47) (bm 13 511) rfl hHeld (Or.inl ⟨by rfl, by rintro w' ⟨⟨s0, s1⟩, s2, s3⟩; go_simp; with_reducible rfl⟩) ?_
                refine zP 9 (some 49) (bm 13 1023) ?_
                refine zP 10 (some 50) (bm 13 2047) ?_
                refine zU 11 (some 51) (bm 13 4095) rfl hHeld (Or.inl ⟨by rfl, by rintro w' ⟨⟨s0, s1⟩, s2, s3⟩; go_simp; with_reducible rfl⟩) ?_
                refine zP 12 (some 52) (bm 13 8191) ?_
                refine done_ (by kernel_rfl) ?_
                go_wp2
                go_roundg (i - (j + 1))
                case measure => have := HJ.out; have := HE2.out; omega
                case rel => exact ⟨j + 1, by rw [← HWj.out], ⟨by have := HE2.out; omega⟩, ⟨fun q hq => by
                    by_cases e : q = j
                    · rw [e, ← HY.out]; exact HES.out
                    · exact HD.out q (by omega)⟩, ⟨BR.out.below HDR.out⟩, ⟨HB.out.trans (HDR.out.mono HB.out.size)⟩⟩
            · have e2b : decide ((j : Int) < (i : Int)) = false := decide_eq_false (by omega)
              have hj : j = i := by have := HJ.out; omega
              have HOK : Az (nameAt l0 i = true) := ⟨by
                unfold nameAt
                rw [← HX.out, HV.out, decide_eq_true H3.out, decide_eq_true (fun q hq => HD.out q (by omega))]
                rfl⟩
              clear hj
              go_wp2
              go_roundg (l0.length - (i + 1))
              case measure => have := HI.out; have := HE1.out; omega
              case rel => exact ⟨i + 1, by rw [← HWi.out], ⟨by have := HE1.out; omega⟩, ⟨fun q hq => by
                  by_cases e : q = i
                  · rw [e]; exact HOK.out
                  · exact HQ.out q (by omega)⟩, BR, HB⟩
        · have h3b : decide ((x.f1.length : Int) = 3) = false := decide_eq_false (by omega)
          have h3c : ((x.f1.length : Int) == 3) = false := by rw [beq_eq_false_iff_ne]; omega
          have h3d : ¬ ((x.f1.length : Int) = 3) := by omega
          have HNO : Az (namesB l0 = false) := ⟨namesB_no HE1.out (by
            unfold nameAt
            rw [← HX.out, decide_eq_false h3, Bool.false_and, Bool.and_false])⟩
          clear hv h3
          go_wp2_with (first | (go_at_call 98; refine (HNM.out _).mono ?_; rintro e w23 ⟨rfl, hd⟩; have hb := hd.below; have BR2 := Az.mk (BR.out.below hb); have HB2 := Az.mk (HB.out.trans (hb.mono HB.out.size)); clear BR HB hcz_0 hcz_1; have BR := BR2; have HB := HB2; clear BR2 HB2; have hcz_0 := (BR.out.cell 0).trans rfl; have hcz_1 := (BR.out.cell 1).trans rfl; have h0_ := (Below.cell hb (World.block_lt_of_cell? _ _ hx_0)).trans hx_0; have h1_ := (Below.cell hb (World.block_lt_of_cell? _ _ hx_1)).trans hx_1; clear hx_0 hx_1; have hx_0 := h0_; have hx_1 := h1_; clear h0_ h1_; clear hb hd) | go_in)
          go_ret
          exact ⟨by rw [HNO.out]; rfl, HB.out⟩
    · have e1b : decide ((i : Int) < (l0.length : Int)) = false := decide_eq_false (by omega)
      have hi : i = l0.length := by have := HI.out; omega
      have hnm : namesB l0 = true := decide_eq_true (by rw [← hi]; exact HQ.out)
      have HNM := Az.mk hnm
      have hnn : ∀ x ∈ l0, x.f1.length = 3 := fun x hx => by
        obtain ⟨q, hq, rfl⟩ := List.getElem_of_mem hx
        have := HQ.out q (by omega)
        unfold nameAt at this
        rw [Bool.and_eq_true, Bool.and_eq_true, decide_eq_true_iff] at this
        simpa [List.getD, hq] using this.2.1
      obtain ⟨ka, hka⟩ := Ev.rounds (all_ev tx l0 HL.out hnn)
      have HPT := Az.mk (fun (W : World) (hb : Below w.heap.size w W) => spec_l2All.calls ka tx (fun k_ => k_ < w.heap.size) A0 c0 l0 (ptrs l0) W (Kd.V_mk HCC.out (Kd.F_below (Kd.C_F k65_heap HR.out) hb)) hka)
      have hpn : (ptrs l0).length ≤ 12 := by
        have := ptrs_take_len hnn l0.length (Nat.le_refl _)
        rw [List.take_length] at this
        have := HL.out
        omega
      have hpF : ∀ p ∈ ptrs l0, p.f2.length ≤ 1048576 := fun p hp => by
        obtain ⟨x, hx, h⟩ := List.mem_flatMap.1 hp
        exact HF.out.places x hx p h
      have HNMT : Az (∀ b, (namesB l0 && b) = b) := ⟨fun b => by rw [HNM.out]; rfl⟩
      obtain ⟨res, hres⟩ : ∃ r, r = (namesB l0 && ptrsB n (ptrs l0)) := ⟨_, rfl⟩
      have HRES : Az ((namesB l0 && ptrsB n (ptrs l0)) = ptrsB n (ptrs l0)) := ⟨HNMT.out _⟩
      obtain ⟨ps, hps⟩ : ∃ ps, ps = ptrs l0 := ⟨_, rfl⟩
      rw [← hps] at HPT hpn hpF HRES
      have HPLN := Az.mk hpn
      have HPF := Az.mk hpF
      have HPS := Az.mk hps
      clear hi hnm hnn hka hpn hpF hres hps HQ
      go_wp2_with (first | (go_at_call 86; refine (HPT.out _ HB.out).mono ?_; rintro e w54 ⟨v, rfl, hN, hb⟩; obtain ⟨A1, c1, rfl, hl1, hC1⟩ := Kd.N_reads hN; have HC1 := Az.mk hC1; have HB2 := Az.mk (HB.out.trans (hb.mono HB.out.size)); clear HB hcz_0 hcz_1 BR hN hl1 hC1 hb; have HBW := HB2; clear HB2) | go_in)
      go_loopg [8] ps.length (fun kq v8 wr => ∃ (i : Nat), v8 = .int .i64 (i : Int) ∧ Az (i + kq = ps.length) ∧ Az (∀ t, t < i → ptrAt n ps t = true) ∧ Az (Below w54.heap.size w54 wr))
      case atStart => exact ⟨0, rfl, ⟨Nat.zero_add _⟩, ⟨fun q h => by omega⟩, ⟨Below.refl _ _⟩⟩
      case round =>
        obtain ⟨i, rfl, HI, HQ, HB⟩ := hrel
        by_cases e1 : i < ps.length
        · have e1b : decide ((i : Int) < (ps.length : Int)) = true := decide_eq_true (by omega)
          have p1 := eq_true (show (0 : Int) ≤ (i : Int) by omega)
          have q1 := eq_true (show (i : Int) < (ps.length : Int) by omega)
          have HE1 := Az.mk e1
          have HWi : Az (wrap64 ((i : Int) + 1) = ((i + 1 : Nat) : Int)) := ⟨by rw [Pure.wrap_ok (by have := HPLN.out; omega)]; omega⟩
          obtain ⟨ad, A2, c2, eA, hx_0, hx_1, hx_2, hl2, hC2⟩ := at_T29 (Kd.C_below HC1.out HB.out) (i : Int) (by omega) (by omega)
          subst eA
          simp only [Int.toNat_natCast, rd_T29] at hx_0 hx_1 hx_2 hl2 hC2
          have hpi := HPF.out _ (getD_mem (z := z29) e1)
          obtain ⟨p, hP⟩ : ∃ p, p = ps.getD i z29 := ⟨_, rfl⟩
          rw [← hP] at hx_0 hx_1 hx_2 hl2 hC2 hpi
          have HP := Az.mk hP
          have hq := spec_l2Ptr_ev HN.out p.f0 p.f1 p.f2 (by omega)
          have ec : @decide (PtrGood n p.f0 p.f1 p.f2) (Classical.propDecidable _) = decide (PtrGood n p.f0 p.f1 p.f2) := decide_eq_decide.2 Iff.rfl
          rw [ec] at hq
          obtain ⟨kp, hkp⟩ := Ev.rounds hq
          have HL2 := Az.mk hl2
          have HC2 := Az.mk hC2
          have hBI := HB.out
          obtain ⟨wi, hwi⟩ : ∃ wi, wi = wr := ⟨_, rfl⟩
          rw [← hwi] at HC2 hBI
          have HBI : Az (∀ W, Below wr.heap.size wr W → Kd.C k37 W A2 p.f2.length p.f2) := ⟨fun W hb => Kd.C_below hC2 hb⟩
          have HPK := Az.mk (fun (W : World) (hb : Below w54.heap.size w54 W) (hC : Kd.C k37 W A2 p.f2.length p.f2) => spec_l2Ptr.calls kp n p.f0 p.f1 A2 c2 p.f2 _ W hC hl2 hkp)
          have HPI := Az.mk hpi
          clear hP hl2 hq ec hkp hBI hwi hpi
          by_cases hg : PtrGood n p.f0 p.f1 p.f2
          · rw [decide_eq_true hg] at HPK
            have HGC : Az (ptrC n p = true) := ⟨decide_eq_true ⟨HN.out, hg⟩⟩
            obtain ⟨go, hgo⟩ : ∃ go, go = gk := ⟨_, rfl⟩
            subst hgo
            clear hg
            go_wp2_with (first | (go_at_call 54; refine (HPK.out _ HB.out (HBI.out _ (Below.refl _ _))).mono ?_; rintro e w66 ⟨rfl, hb⟩; have HB2 := Az.mk (HB.out.trans (hb.mono HB.out.size)); clear HB hb; have HB := HB2; clear HB2) | go_in)
            clear hx_0 hx_1 hx_2 hC2 HBI
            go_loopg [9] i (fun kq v9 wr => ∃ (j : Nat), v9 = .int .i64 (j : Int) ∧ Az (j + kq = i) ∧ Az (∀ t, t < j → pairB p (ps.getD t z29) = true) ∧ Az (Below w54.heap.size w54 wr))
            case atStart => exact ⟨0, rfl, ⟨Nat.zero_add _⟩, ⟨fun q h => by omega⟩, HB⟩
            case round =>
              obtain ⟨j, rfl, HJ, HD, HB⟩ := hrel
              by_cases e2 : j < i
              · have e2b : decide ((j : Int) < (i : Int)) = true := decide_eq_true (by omega)
                have p2 := eq_true (show (0 : Int) ≤ (j : Int) by omega)
                have q2 := eq_true (show (j : Int) < (ps.length : Int) by have := HE1.out; omega)
                have HE2 := Az.mk e2
                have HWj : Az (wrap64 ((j : Int) + 1) = ((j + 1 : Nat) : Int)) := ⟨by rw [Pure.wrap_ok (by have := HPLN.out; have := HE1.out; omega)]; omega⟩
                obtain ⟨_, A2, c2, eA, hx_0, hx_1, hx_2, hl2, hC2⟩ := at_T29 (Kd.C_below HC1.out HB.out) (i : Int) (by omega) (by have := HE1.out; omega)
                cases eA
                obtain ⟨_, B2, d2, eA, hy_0, hy_1, hy_2, hm2, hD2⟩ := at_T29 (Kd.C_below HC1.out HB.out) (j : Int) (by omega) (by have := HE1.out; omega)
                cases eA
                simp only [Int.toNat_natCast, rd_T29] at hx_0 hx_1 hx_2 hl2 hC2 hy_0 hy_1 hy_2 hm2 hD2
                rw [← HP.out] at hx_0 hx_1 hx_2 hl2 hC2
                have hpj := HPF.out _ (getD_mem (z := z29) (i := j) (l := ps) (by have := HE1.out; omega))
                obtain ⟨q, hQ⟩ : ∃ q, q = ps.getD j z29 := ⟨_, rfl⟩
                rw [← hQ] at hy_0 hy_1 hy_2 hm2 hD2 hpj
                have HQ2 := Az.mk hQ
                obtain ⟨km, hkm⟩ := Ev.rounds (meet_ev p q HPI.out hpj)
                obtain ⟨ks, hks⟩ := Ev.rounds (specSame_ev p q HPI.out)
                have HME : Az (∀ W, Below wr.heap.size wr W → Calls Try.prog 87 #[.agg #[.int .i64 p.f0, .int .i64 p.f1, .slice A2 p.f2.length c2], .agg #[.int .i64 q.f0, .int .i64 q.f1, .slice B2 q.f2.length d2]] W fun e w' => e = .returned (.bool (meetB p.f2 q.f2)) ∧ Below W.heap.size W w') := ⟨fun W hb => spec_l2Meet.calls km p.f0 p.f1 A2 c2 p.f2 q.f0 q.f1 B2 d2 q.f2 _ W (Kd.C_below hC2 hb) hl2 (Kd.C_below hD2 hb) hm2 hkm⟩
                have HSA : Az (∀ W, Below wr.heap.size wr W → Calls Try.prog 99 #[.agg #[.int .i64 p.f0, .int .i64 p.f1, .slice A2 p.f2.length c2], .agg #[.int .i64 q.f0, .int .i64 q.f1, .slice B2 q.f2.length d2]] W fun e w' => e = .returned (.bool (sameB p q)) ∧ Below W.heap.size W w') := ⟨fun W hb => spec_l2Same.calls ks p.f0 p.f1 A2 c2 p.f2 q.f0 q.f1 B2 d2 q.f2 _ W (Kd.C_below hC2 hb) hl2 (Kd.C_below hD2 hb) hm2 hks⟩
                have HB0 := Az.mk HB.out
                obtain ⟨w0, hw0⟩ : ∃ w0, w0 = wr := ⟨_, rfl⟩
                have HBZ : Az (Below w54.heap.size w54 wr) := HB
                clear HB
                have HB := Az.mk (Below.refl wr.heap.size wr)
                clear hQ hkm hks hl2 hC2 hm2 hD2 hpj hw0 HB0
                cases hme : meetB p.f2 q.f2 with
                | false =>
                  rw [hme] at HME
                  have HPB : Az (pairB p q = true) := ⟨by unfold pairB; rw [hme]; rfl⟩
                  clear hme
                  go_wp2_with fail
                  refine start_ (n := 21) (S := fun w' => (w'.cell? (ad.add (i * 3)) = some (.int .i64 p.f0) ∧ w'.cell? ⟨(ad.add (i * 3)).block, (ad.add (i * 3)).off + 1, none⟩ = some (.int .i64 p.f1) ∧ w'.cell? ⟨(ad.add (i * 3)).block, (ad.add (i * 3)).off + 2, none⟩ = some (.slice A2 p.f2.length c2)) ∧ (w'.cell? (ad.add (j * 3)) = some (.int .i64 q.f0) ∧ w'.cell? ⟨(ad.add (j * 3)).block, (ad.add (j * 3)).off + 1, none⟩ = some (.int .i64 q.f1) ∧ w'.cell? ⟨(ad.add (j * 3)).block, (ad.add (j * 3)).off + 2, none⟩ = some (.slice B2 q.f2.length d2))) (ds := []) (bm 21 0) (by kernel_rfl) rfl rfl (⟨⟨hx_0, hx_1, hx_2⟩, hy_0, hy_1, hy_2⟩) (fun hHeld => ?_)
                  have HB2 := Az.mk (HB.out.drew)
                  clear HB
                  have HB := HB2
                  clear HB2
                  generalize wr.drew = wd at HB hHeld ⊢
                  refine zP 0 (some 73) (bm 21 1) ?_
                  refine zP 1 (some 74) (bm 21 3) ?_
                  refine zP 2 (some 75) (bm 21 7) ?_
                  refine zP 4 (some 77) (bm 21 23) ?_
                  refine zP 5 (some 78) (bm 21 55) ?_
                  refine zP 6 (some 79) (bm 21 119) ?_
                  refine zU 3 (some 76) (bm 21 127) rfl hHeld (Or.inl ⟨by rfl, by rintro w' ⟨⟨s0, s1, s2⟩, s3, s4, s5⟩; go_simp; with_reducible rfl⟩) ?_
                  refine zU 7 (some 80) (bm 21 255) rfl hHeld (Or.inl ⟨by rfl, by rintro w' ⟨⟨s0, s1, s2⟩, s3, s4, s5⟩; go_simp; with_reducible rfl⟩) ?_
                  refine one_ (i := 8) (N := some 81) (bm 21 511) rfl rfl (by kernel_rfl) (by decide) (fun K hK => ?_)
                  refine goes_ Try.func87 (by kernel_rfl) rfl #[.agg #[.int .i64 p.f0, .int .i64 p.f1, .slice A2 p.f2.length c2], .agg #[.int .i64 q.f0, .int .i64 q.f1, .slice B2 q.f2.length d2]] (by rfl) rfl rfl (by (try simp only [List.map_toArray, List.map_cons, List.map_nil]); first | done | rfl) ?_
                  refine (HME.out _ HB.out).mono ?_
                  rintro e w81 ⟨rfl, hb⟩
                  refine ⟨_, rfl, ?_⟩
                  have HS2 := keepS hb hHeld
                  have HB2 := Az.mk (HB.out.trans (hb.mono HB.out.size))
                  clear HB
                  have HB := HB2
                  clear HB2
                  refine hK.out _ _ HS2 (fun hHeld => ?_)
                  clear HS2
                  clear hK K
                  refine norm_ (a' := ?_) ?_ ?_
                  rotate_left
                  · show Act.put _ (some 81) _ = _
                    simp only [Act.put, zs1, zs2, zs3, i64_w, i32_w]
                    rfl
                  refine zP 9 (some 82) (bm 21 1023) ?_
                  refine zO 10 (some 83) (bm 21 2047) ?_
                  refine zO 11 (some 84) (bm 21 4095) ?_
                  refine zO 12 (some 85) (bm 21 8191) ?_
                  refine zO 13 (some 86) (bm 21 16383) ?_
                  refine zO 14 (some 87) (bm 21 32767) ?_
                  refine zO 15 (some 88) (bm 21 65535) ?_
                  refine zO 16 (some 89) (bm 21 131071) ?_
                  refine zO 17 (some 90) (bm 21 262143) ?_
                  refine zO 18 (some 91) (bm 21 524287) ?_
                  refine zO 19 (some 92) (bm 21 1048575) ?_
                  refine zP 20 (some 93) (bm 21 2097151) ?_
                  refine done_ (by kernel_rfl) ?_
                  have HB2 := Az.mk (HBZ.out.trans (HB.out.mono HBZ.out.size))
                  clear HB
                  have HB := HB2
                  go_wp2
                  go_roundg (i - (j + 1))
                  case measure => have := HJ.out; have := HE2.out; omega
                  case rel => exact ⟨j + 1, by rw [← HWj.out], ⟨by have := HE2.out; omega⟩, ⟨fun t ht => by
                      by_cases e : t = j
                      · rw [e, ← HQ2.out]; exact HPB.out
                      · exact HD.out t (by omega)⟩, HB⟩
                | true =>
                  rw [hme] at HME
                  cases hsa : sameB p q with
                  | true =>
                    rw [hsa] at HSA
                    have HPB : Az (pairB p q = true) := ⟨by unfold pairB; rw [hsa]; simp⟩
                    clear hme hsa
                    go_wp2_with fail
                    refine start_ (n := 21) (S := fun w' => (w'.cell? (ad.add (i * 3)) = some (.int .i64 p.f0) ∧ w'.cell? ⟨(ad.add (i * 3)).block, (ad.add (i * 3)).off + 1, none⟩ = some (.int .i64 p.f1) ∧ w'.cell? ⟨(ad.add (i * 3)).block, (ad.add (i * 3)).off + 2, none⟩ = some (.slice A2 p.f2.length c2)) ∧ (w'.cell? (ad.add (j * 3)) = some (.int .i64 q.f0) ∧ w'.cell? ⟨(ad.add (j * 3)).block, (ad.add (j * 3)).off + 1, none⟩ = some (.int .i64 q.f1) ∧ w'.cell? ⟨(ad.add (j * 3)).block, (ad.add (j * 3)).off + 2, none⟩ = some (.slice B2 q.f2.length d2))) (ds := []) (bm 21 0) (by kernel_rfl) rfl rfl (⟨⟨hx_0, hx_1, hx_2⟩, hy_0, hy_1, hy_2⟩) (fun hHeld => ?_)
                    have HB2 := Az.mk (HB.out.drew)
                    clear HB
                    have HB := HB2
                    clear HB2
                    generalize wr.drew = wd at HB hHeld ⊢
                    refine zP 0 (some 73) (bm 21 1) ?_
                    refine zP 1 (some 74) (bm 21 3) ?_
                    refine zP 2 (some 75) (bm 21 7) ?_
                    refine zP 4 (some 77) (bm 21 23) ?_
                    refine zP 5 (some 78) (bm 21 55) ?_
                    refine zP 6 (some 79) (bm 21 119) ?_
                    refine zU 3 (some 76) (bm 21 127) rfl hHeld (Or.inl ⟨by rfl, by rintro w' ⟨⟨s0, s1, s2⟩, s3, s4, s5⟩; go_simp; with_reducible rfl⟩) ?_
                    refine zU 7 (some 80) (bm 21 255) rfl hHeld (Or.inl ⟨by rfl, by rintro w' ⟨⟨s0, s1, s2⟩, s3, s4, s5⟩; go_simp; with_reducible rfl⟩) ?_
                    refine one_ (i := 8) (N := some 81) (bm 21 511) rfl rfl (by kernel_rfl) (by decide) (fun K hK => ?_)
                    refine goes_ Try.func87 (by kernel_rfl) rfl #[.agg #[.int .i64 p.f0, .int .i64 p.f1, .slice A2 p.f2.length c2], .agg #[.int .i64 q.f0, .int .i64 q.f1, .slice B2 q.f2.length d2]] (by rfl) rfl rfl (by (try simp only [List.map_toArray, List.map_cons, List.map_nil]); first | done | rfl) ?_
                    refine (HME.out _ HB.out).mono ?_
                    rintro e w81 ⟨rfl, hb⟩
                    refine ⟨_, rfl, ?_⟩
                    have HS2 := keepS hb hHeld
                    have HB2 := Az.mk (HB.out.trans (hb.mono HB.out.size))
                    clear HB
                    have HB := HB2
                    clear HB2
                    refine hK.out _ _ HS2 (fun hHeld => ?_)
                    clear HS2
                    clear hK K
                    refine norm_ (a' := ?_) ?_ ?_
                    rotate_left
                    · show Act.put _ (some 81) _ = _
                      simp only [Act.put, zs1, zs2, zs3, i64_w, i32_w]
                      rfl
                    refine zP 9 (some 82) (bm 21 1023) ?_
                    refine zP 10 (some 83) (bm 21 2047) ?_
                    refine zP 11 (some 84) (bm 21 4095) ?_
                    refine zP 12 (some 85) (bm 21 8191) ?_
                    refine zP 14 (some 87) (bm 21 24575) ?_
                    refine zP 15 (some 88) (bm 21 57343) ?_
                    refine zP 16 (some 89) (bm 21 122879) ?_
                    refine zU 13 (some 86) (bm 21 131071) rfl hHeld (Or.inl ⟨by rfl, by rintro w' ⟨⟨s0, s1, s2⟩, s3, s4, s5⟩; go_simp; with_reducible rfl⟩) ?_
                    refine zU 17 (some 90) (bm 21 262143) rfl hHeld (Or.inl ⟨by rfl, by rintro w' ⟨⟨s0, s1, s2⟩, s3, s4, s5⟩; go_simp; with_reducible rfl⟩) ?_
                    refine one_ (i := 18) (N := some 91) (bm 21 524287) rfl rfl (by kernel_rfl) (by decide) (fun K hK => ?_)
                    refine goes_ Try.func99 (by kernel_rfl) rfl #[.agg #[.int .i64 p.f0, .int .i64 p.f1, .slice A2 p.f2.length c2], .agg #[.int .i64 q.f0, .int .i64 q.f1, .slice B2 q.f2.length d2]] (by rfl) rfl rfl (by (try simp only [List.map_toArray, List.map_cons, List.map_nil]); first | done | rfl) ?_
                    refine (HSA.out _ HB.out).mono ?_
                    rintro e w91 ⟨rfl, hb⟩
                    refine ⟨_, rfl, ?_⟩
                    have HS2 := keepS hb hHeld
                    have HB2 := Az.mk (HB.out.trans (hb.mono HB.out.size))
                    clear HB
                    have HB := HB2
                    clear HB2
                    refine hK.out _ _ HS2 (fun hHeld => ?_)
                    clear HS2
                    clear hK K
                    refine norm_ (a' := ?_) ?_ ?_
                    rotate_left
                    · show Act.put _ (some 91) _ = _
                      simp only [Act.put, zs1, zs2, zs3, i64_w, i32_w]
                      rfl
                    refine zP 19 (some 92) (bm 21 1048575) ?_
                    refine zP 20 (some 93) (bm 21 2097151) ?_
                    refine done_ (by kernel_rfl) ?_
                    have HB2 := Az.mk (HBZ.out.trans (HB.out.mono HBZ.out.size))
                    clear HB
                    have HB := HB2
                    go_wp2
                    go_roundg (i - (j + 1))
                    case measure => have := HJ.out; have := HE2.out; omega
                    case rel => exact ⟨j + 1, by rw [← HWj.out], ⟨by have := HE2.out; omega⟩, ⟨fun t ht => by
                        by_cases e : t = j
                        · rw [e, ← HQ2.out]; exact HPB.out
                        · exact HD.out t (by omega)⟩, HB⟩
                  | false =>
                    rw [hsa] at HSA
                    have HNO : Az (ptrsB n ps = false) := ⟨ptrsB_no HE1.out (by
                      unfold ptrAt
                      rw [← HP.out, Bool.and_eq_false_iff, decide_eq_false_iff_not]
                      right
                      intro h
                      have := h j HE2.out
                      rw [← HQ2.out] at this
                      unfold pairB at this
                      rw [hme, hsa] at this
                      cases this)⟩
                    clear hme hsa
                    go_wp2_with fail
                    refine start_ (n := 21) (S := fun w' => (w'.cell? (ad.add (i * 3)) = some (.int .i64 p.f0) ∧ w'.cell? ⟨(ad.add (i * 3)).block, (ad.add (i * 3)).off + 1, none⟩ = some (.int .i64 p.f1) ∧ w'.cell? ⟨(ad.add (i * 3)).block, (ad.add (i * 3)).off + 2, none⟩ = some (.slice A2 p.f2.length c2)) ∧ (w'.cell? (ad.add (j * 3)) = some (.int .i64 q.f0) ∧ w'.cell? ⟨(ad.add (j * 3)).block, (ad.add (j * 3)).off + 1, none⟩ = some (.int .i64 q.f1) ∧ w'.cell? ⟨(ad.add (j * 3)).block, (ad.add (j * 3)).off + 2, none⟩ = some (.slice B2 q.f2.length d2))) (ds := []) (bm 21 0) (by kernel_rfl) rfl rfl (⟨⟨hx_0, hx_1, hx_2⟩, hy_0, hy_1, hy_2⟩) (fun hHeld => ?_)
                    have HB2 := Az.mk (HB.out.drew)
                    clear HB
                    have HB := HB2
                    clear HB2
                    generalize wr.drew = wd at HB hHeld ⊢
                    refine zP 0 (some 73) (bm 21 1) ?_
                    refine zP 1 (some 74) (bm 21 3) ?_
                    refine zP 2 (some 75) (bm 21 7) ?_
                    refine zP 4 (some 77) (bm 21 23) ?_
                    refine zP 5 (some 78) (bm 21 55) ?_
                    refine zP 6 (some 79) (bm 21 119) ?_
                    refine zU 3 (some 76) (bm 21 127) rfl hHeld (Or.inl ⟨by rfl, by rintro w' ⟨⟨s0, s1, s2⟩, s3, s4, s5⟩; go_simp; with_reducible rfl⟩) ?_
                    refine zU 7 (some 80) (bm 21 255) rfl hHeld (Or.inl ⟨by rfl, by rintro w' ⟨⟨s0, s1, s2⟩, s3, s4, s5⟩; go_simp; with_reducible rfl⟩) ?_
                    refine one_ (i := 8) (N := some 81) (bm 21 511) rfl rfl (by kernel_rfl) (by decide) (fun K hK => ?_)
                    refine goes_ Try.func87 (by kernel_rfl) rfl #[.agg #[.int .i64 p.f0, .int .i64 p.f1, .slice A2 p.f2.length c2], .agg #[.int .i64 q.f0, .int .i64 q.f1, .slice B2 q.f2.length d2]] (by rfl) rfl rfl (by (try simp only [List.map_toArray, List.map_cons, List.map_nil]); first | done | rfl) ?_
                    refine (HME.out _ HB.out).mono ?_
                    rintro e w81 ⟨rfl, hb⟩
                    refine ⟨_, rfl, ?_⟩
                    have HS2 := keepS hb hHeld
                    have HB2 := Az.mk (HB.out.trans (hb.mono HB.out.size))
                    clear HB
                    have HB := HB2
                    clear HB2
                    refine hK.out _ _ HS2 (fun hHeld => ?_)
                    clear HS2
                    clear hK K
                    refine norm_ (a' := ?_) ?_ ?_
                    rotate_left
                    · show Act.put _ (some 81) _ = _
                      simp only [Act.put, zs1, zs2, zs3, i64_w, i32_w]
                      rfl
                    refine zP 9 (some 82) (bm 21 1023) ?_
                    refine zP 10 (some 83) (bm 21 2047) ?_
                    refine zP 11 (some 84) (bm 21 4095) ?_
                    refine zP 12 (some 85) (bm 21 8191) ?_
                    refine zP 14 (some 87) (bm 21 24575) ?_
                    refine zP 15 (some 88) (bm 21 57343) ?_
                    refine zP 16 (some 89) (bm 21 122879) ?_
                    refine zU 13 (some 86) (bm 21 131071) rfl hHeld (Or.inl ⟨by rfl, by rintro w' ⟨⟨s0, s1, s2⟩, s3, s4, s5⟩; go_simp; with_reducible rfl⟩) ?_
                    refine zU 17 (some 90) (bm 21 262143) rfl hHeld (Or.inl ⟨by rfl, by rintro w' ⟨⟨s0, s1, s2⟩, s3, s4, s5⟩; go_simp; with_reducible rfl⟩) ?_
                    refine one_ (i := 18) (N := some 91) (bm 21 524287) rfl rfl (by kernel_rfl) (by decide) (fun K hK => ?_)
                    refine goes_ Try.func99 (by kernel_rfl) rfl #[.agg #[.int .i64 p.f0, .int .i64 p.f1, .slice A2 p.f2.length c2], .agg #[.int .i64 q.f0, .int .i64 q.f1, .slice B2 q.f2.length d2]] (by rfl) rfl rfl (by (try simp only [List.map_toArray, List.map_cons, List.map_nil]); first | done | rfl) ?_
                    refine (HSA.out _ HB.out).mono ?_
                    rintro e w91 ⟨rfl, hb⟩
                    refine ⟨_, rfl, ?_⟩
                    have HS2 := keepS hb hHeld
                    have HB2 := Az.mk (HB.out.trans (hb.mono HB.out.size))
                    clear HB
                    have HB := HB2
                    clear HB2
                    refine hK.out _ _ HS2 (fun hHeld => ?_)
                    clear HS2
                    clear hK K
                    refine norm_ (a' := ?_) ?_ ?_
                    rotate_left
                    · show Act.put _ (some 91) _ = _
                      simp only [Act.put, zs1, zs2, zs3, i64_w, i32_w]
                      rfl
                    refine zP 19 (some 92) (bm 21 1048575) ?_
                    refine zP 20 (some 93) (bm 21 2097151) ?_
                    refine done_ (by kernel_rfl) ?_
                    have HB2 := Az.mk (HBZ.out.trans (HB.out.mono HBZ.out.size))
                    clear HB
                    have HB := HB2
                    go_wp2
                    go_ret
                    exact ⟨by rw [← HPS.out, HRES.out, HNO.out]; rfl, HBW.out.trans (HB.out.mono HBW.out.size)⟩
              · have e2b : decide ((j : Int) < (i : Int)) = false := decide_eq_false (by omega)
                have hj : j = i := by have := HJ.out; omega
                have HOK : Az (ptrAt n ps i = true) := ⟨by
                  unfold ptrAt
                  rw [← HP.out, HGC.out, Bool.true_and, decide_eq_true_iff]
                  exact fun q hq => HD.out q (by omega)⟩
                clear hj
                go_wp2
                go_roundg (ps.length - (i + 1))
                case measure => have := HI.out; have := HE1.out; omega
                case rel => exact ⟨i + 1, by rw [← HWi.out], ⟨by have := HE1.out; omega⟩, ⟨fun t ht => by
                    by_cases e : t = i
                    · rw [e]; exact HOK.out
                    · exact HQ.out t (by omega)⟩, HB⟩
          · rw [decide_eq_false hg] at HPK
            have HNO : Az (ptrsB n ps = false) := ⟨ptrsB_no HE1.out (by
              unfold ptrAt ptrC
              rw [← HP.out, decide_eq_false (fun h => hg h.2), Bool.false_and])⟩
            clear hg
            go_wp2_with (first | (go_at_call 54; refine (HPK.out _ HB.out (HBI.out _ (Below.refl _ _))).mono ?_; rintro e w66 ⟨rfl, hb⟩; have HB2 := Az.mk (HB.out.trans (hb.mono HB.out.size)); clear HB hb; have HB := HB2; clear HB2) | go_in)
            go_ret
            exact ⟨by rw [← HPS.out, HRES.out, HNO.out]; rfl, HBW.out.trans (HB.out.mono HBW.out.size)⟩
        · have e1b : decide ((i : Int) < (ps.length : Int)) = false := decide_eq_false (by omega)
          have hi : i = ps.length := by have := HI.out; omega
          have HOK : Az (ptrsB n ps = true) := ⟨decide_eq_true fun t ht _ => HQ.out t (by omega)⟩
          clear hi
          go_wp2
          go_ret
          exact ⟨by rw [← HPS.out, HRES.out, HOK.out]; rfl, HBW.out.trans (HB.out.mono HBW.out.size)⟩
end Go.Proofs.Ytkoimmeghdbodaa.Print
namespace Go.Proofs.Ytkoimmeghdbodaa.Print
open Go.RowKit Go.Lib Go.Maps Go.WideMaps Go.Proofs.YtkoimmeghdbodaaW.PrintWords Go.Proofs.YtkoimmeghdbodaaW.PrintLast Go.Proofs.YtkoimmeghdbodaaW.PrintMore Go.Proofs.Ytkoimmeghdbodaa.Pure
set_option maxHeartbeats 8000000 in
set_option maxRecDepth 100000 in
theorem sRoot_call (n tx : Int) (A0 : Option Addr) (c0 : Nat) (l0 : List S65) (w : World) (hr0 : Kd.C k65 w A0 l0.length l0) (hc0 : l0.length ≤ c0) (hF : FitM l0) :
    Calls Try.prog 36 #[.int .i64 n, .agg #[.int .i64 tx, .slice A0 l0.length c0]] w fun e w' => e = .returned (.bool (rootB n tx l0)) ∧ Below w.heap.size w w' := by
  have hu57 := Try.underlying57
  have HB := Az.mk (Below.refl w.heap.size w)
  rw [rootB_eq]
  have H53 := Az.mk (fun W => spec_l2Disks.calls n (decide (3 ≤ n ∧ n ≤ 4)) W (by unfold spec_l2Disks.f; rw [l6In_eq]; rfl))
  have H75 := Az.mk (fun W => spec_l6In.calls tx 0 100000 (decide (0 ≤ tx ∧ tx ≤ 100000)) W (l6In_eq _ _ _))
  have hsp : specB n tx l0 = (decide (3 ≤ n ∧ n ≤ 4) && (decide (0 ≤ tx ∧ tx ≤ 100000) && (decide (l0.length ≤ 4) && (namesB l0 && ptrsB n (ptrs l0))))) := rfl
  generalize specB n tx l0 = res at hsp ⊢
  by_cases c1 : 3 ≤ n ∧ n ≤ 4
  · rw [decide_eq_true c1] at H53 hsp
    by_cases c2 : 0 ≤ tx ∧ tx ≤ 100000
    · rw [decide_eq_true c2] at H75 hsp
      by_cases c3 : l0.length ≤ 4
      · rw [decide_eq_true c3] at hsp
        have H76 := Az.mk (fun (W : World) (hb : Below w.heap.size w W) => sVols_call n tx c1 A0 c0 l0 W (Kd.C_below hr0 hb) hc0 hF c3)
        have d3 : decide ((l0.length : Int) ≤ 4) = true := decide_eq_true (by omega)
        have HE : Az (res = (namesB l0 && ptrsB n (ptrs l0))) := ⟨by rw [hsp]; rfl⟩
        clear hr0 hc0 hF c1 c2 hsp
        go_enter Try.func36, Try.ntmps36
        go_wp2_with (first | ((with_reducible refine zqg (N := 3) rfl ?_); refine zqb ?hg (N := 3) ?hd (cs := #[.int .i64 tx, .slice A0 l0.length c0]) (t := 57) ?hr ?_; (case hd => rfl); (case hg => rfl); (case hr => first | (go_simp; done) | (go_simp; rfl)); intro gb hg w5 hbox hb; have n0_ := Az.mk (below_step zB hb); have BR := Az.mk (show Blk w5 gb #[.int .i64 tx, .slice A0 l0.length c0] 57 from hbox); clear HB; have HB := n0_; clear n0_ hbox hb hg; have hcz_0 := (BR.out.cell 0).trans rfl; have hcz_1 := (BR.out.cell 1).trans rfl) | (go_at_call 53; refine (H53.out _).mono ?_; rintro e w6 ⟨rfl, hd⟩; have hb := hd.below; have BR2 := Az.mk (BR.out.below hb); have HB2 := Az.mk (HB.out.trans (hb.mono HB.out.size)); clear BR HB hcz_0 hcz_1; have BR := BR2; have HB := HB2; clear BR2 HB2; have hcz_0 := (BR.out.cell 0).trans rfl; have hcz_1 := (BR.out.cell 1).trans rfl; clear hb hd) | (go_at_call 75; refine (H75.out _).mono ?_; rintro e w10 ⟨rfl, hd⟩; have hb := hd.below; have BR2 := Az.mk (BR.out.below hb); have HB2 := Az.mk (HB.out.trans (hb.mono HB.out.size)); clear BR HB hcz_0 hcz_1; have BR := BR2; have HB := HB2; clear BR2 HB2; have hcz_0 := (BR.out.cell 0).trans rfl; have hcz_1 := (BR.out.cell 1).trans rfl; clear hb hd) | (go_at_call 76; refine (H76.out _ HB.out).mono ?_; rintro e w21 ⟨rfl, hb⟩; have BR2 := Az.mk (BR.out.below hb); have HB2 := Az.mk (HB.out.trans (hb.mono HB.out.size)); clear BR HB hcz_0 hcz_1; have BR := BR2; have HB := HB2; clear BR2 HB2; have hcz_0 := (BR.out.cell 0).trans rfl; have hcz_1 := (BR.out.cell 1).trans rfl; clear hb) | go_in)
        go_ret
        exact ⟨by rw [HE.out]; rfl, HB.out⟩
      · rw [decide_eq_false c3] at hsp
        have d3 : decide ((l0.length : Int) ≤ 4) = false := decide_eq_false (by omega)
        have HE : Az (res = false) := ⟨by rw [hsp]; rfl⟩
        clear hr0 hc0 hF c1 c2 hsp
        go_enter Try.func36, Try.ntmps36
        go_wp2_with (first | ((with_reducible refine zqg (N := 3) rfl ?_); refine zqb ?hg (N := 3) ?hd (cs := #[.int .i64 tx, .slice A0 l0.length c0]) (t := 57) ?hr ?_; (case hd => rfl); (case hg => rfl); (case hr => first | (go_simp; done) | (go_simp; rfl)); intro gb hg w5 hbox hb; have n0_ := Az.mk (below_step zB hb); have BR := Az.mk (show Blk w5 gb #[.int .i64 tx, .slice A0 l0.length c0] 57 from hbox); clear HB; have HB := n0_; clear n0_ hbox hb hg; have hcz_0 := (BR.out.cell 0).trans rfl; have hcz_1 := (BR.out.cell 1).trans rfl) | (go_at_call 53; refine (H53.out _).mono ?_; rintro e w6 ⟨rfl, hd⟩; have hb := hd.below; have BR2 := Az.mk (BR.out.below hb); have HB2 := Az.mk (HB.out.trans (hb.mono HB.out.size)); clear BR HB hcz_0 hcz_1; have BR := BR2; have HB := HB2; clear BR2 HB2; have hcz_0 := (BR.out.cell 0).trans rfl; have hcz_1 := (BR.out.cell 1).trans rfl; clear hb hd) | (go_at_call 75; refine (H75.out _).mono ?_; rintro e w10 ⟨rfl, hd⟩; have hb := hd.below; have BR2 := Az.mk (BR.out.below hb); have HB2 := Az.mk (HB.out.trans (hb.mono HB.out.size)); clear BR HB hcz_0 hcz_1; have BR := BR2; have HB := HB2; clear BR2 HB2; have hcz_0 := (BR.out.cell 0).trans rfl; have hcz_1 := (BR.out.cell 1).trans rfl; clear hb hd) | go_in)
        go_ret
        exact ⟨by rw [HE.out]; rfl, HB.out⟩
    · rw [decide_eq_false c2] at H75 hsp
      have HE : Az (res = false) := ⟨by rw [hsp]; rfl⟩
      clear hr0 hc0 hF c1 c2 hsp
      go_enter Try.func36, Try.ntmps36
      go_wp2_with (first | ((with_reducible refine zqg (N := 3) rfl ?_); refine zqb ?hg (N := 3) ?hd (cs := #[.int .i64 tx, .slice A0 l0.length c0]) (t := 57) ?hr ?_; (case hd => rfl); (case hg => rfl); (case hr => first | (go_simp; done) | (go_simp; rfl)); intro gb hg w5 hbox hb; have n0_ := Az.mk (below_step zB hb); have BR := Az.mk (show Blk w5 gb #[.int .i64 tx, .slice A0 l0.length c0] 57 from hbox); clear HB; have HB := n0_; clear n0_ hbox hb hg; have hcz_0 := (BR.out.cell 0).trans rfl; have hcz_1 := (BR.out.cell 1).trans rfl) | (go_at_call 53; refine (H53.out _).mono ?_; rintro e w6 ⟨rfl, hd⟩; have hb := hd.below; have BR2 := Az.mk (BR.out.below hb); have HB2 := Az.mk (HB.out.trans (hb.mono HB.out.size)); clear BR HB hcz_0 hcz_1; have BR := BR2; have HB := HB2; clear BR2 HB2; have hcz_0 := (BR.out.cell 0).trans rfl; have hcz_1 := (BR.out.cell 1).trans rfl; clear hb hd) | (go_at_call 75; refine (H75.out _).mono ?_; rintro e w10 ⟨rfl, hd⟩; have hb := hd.below; have BR2 := Az.mk (BR.out.below hb); have HB2 := Az.mk (HB.out.trans (hb.mono HB.out.size)); clear BR HB hcz_0 hcz_1; have BR := BR2; have HB := HB2; clear BR2 HB2; have hcz_0 := (BR.out.cell 0).trans rfl; have hcz_1 := (BR.out.cell 1).trans rfl; clear hb hd) | go_in)
      go_ret
      exact ⟨by rw [HE.out]; rfl, HB.out⟩
  · rw [decide_eq_false c1] at H53 hsp
    have HE : Az (res = false) := ⟨by rw [hsp]; rfl⟩
    clear hr0 hc0 hF c1 hsp
    go_enter Try.func36, Try.ntmps36
    go_wp2_with (first | ((with_reducible refine zqg (N := 3) rfl ?_); refine zqb ?hg (N := 3) ?hd (cs := #[.int .i64 tx, .slice A0 l0.length c0]) (t := 57) ?hr ?_; (case hd => rfl); (case hg => rfl); (case hr => first | (go_simp; done) | (go_simp; rfl)); intro gb hg w5 hbox hb; have n0_ := Az.mk (below_step zB hb); have BR := Az.mk (show Blk w5 gb #[.int .i64 tx, .slice A0 l0.length c0] 57 from hbox); clear HB; have HB := n0_; clear n0_ hbox hb hg; have hcz_0 := (BR.out.cell 0).trans rfl; have hcz_1 := (BR.out.cell 1).trans rfl) | (go_at_call 53; refine (H53.out _).mono ?_; rintro e w6 ⟨rfl, hd⟩; have hb := hd.below; have BR2 := Az.mk (BR.out.below hb); have HB2 := Az.mk (HB.out.trans (hb.mono HB.out.size)); clear BR HB hcz_0 hcz_1; have BR := BR2; have HB := HB2; clear BR2 HB2; have hcz_0 := (BR.out.cell 0).trans rfl; have hcz_1 := (BR.out.cell 1).trans rfl; clear hb hd) | go_in)
    go_ret
    exact ⟨by rw [HE.out]; rfl, HB.out⟩
end Go.Proofs.Ytkoimmeghdbodaa.Print
namespace Go.Proofs.Ytkoimmeghdbodaa.Hq
open Go.RowKit Go.Proofs.Ytkoimmeghdbodaa.Print Go.Proofs.YtkoimmeghdbodaaW.PrintWords Go.Proofs.YtkoimmeghdbodaaW.PrintLast Go.Proofs.YtkoimmeghdbodaaW.PrintMore Go.Proofs.Ytkoimmeghdbodaa.Pure Go.Proofs.Ytkoimmeghdbodaa.Hd
theorem M_apart {w : World} {b : Nat} {ok ok' : Nat → Prop} {y : S29} {cs : List Value} {u : Value} {l : List S29} (h : q29.M w b ok y cs) (hu : q29.R 29 w b ok' u l) : q29.M w b (fun k => ok k ∧ some k ≠ u.ownBlock) y cs := by
  cases hv : u.ownBlock with
  | none => exact q29.M_mono (fun k hk => ⟨hk, by simp⟩) h
  | some g =>
    obtain ⟨c, hc⟩ := Kd.R_typed hu g hv
    refine q29.M_mono (fun k hk => ⟨hk.1, fun e => hk.2 (Option.some.inj e)⟩) (Kd.M_types h hc (fun q hq => ?_))
    have : q ∈ [37] := hq
    have : q = 37 := by simpa using this
    subst this
    decide
theorem own_new {w W : World} (hb : Below w.heap.size w W) {v : Value} (h : ∃ b, v.ownBlock = some b ∧ W.heap.size ≤ b) : ∀ k, v.ownBlock = some k → w.heap.size ≤ k := fun k hk => by
  obtain ⟨b, h1, h2⟩ := h
  rw [h1] at hk
  cases hk
  exact Nat.le_trans hb.size h2
theorem own_at {w W : World} {u v : Value} (hu : ∀ k, u.ownBlock = some k → w.heap.size ≤ k) (hb : Below w.heap.size w W) (h : v.ownBlock = u.ownBlock ∨ ∃ b, v.ownBlock = some b ∧ W.heap.size ≤ b) : ∀ k, v.ownBlock = some k → w.heap.size ≤ k := by
  rcases h with h | h
  · intro k hk
    exact hu k (by rw [← h]; exact hk)
  · exact own_new hb h
theorem blk_grown {w w' : World} {g : Nat} {cs : Array Value} {t : TypeId} {row : Option Nat} (h : Blk w g cs t) (hg : w.grownBy w' row) (hr : some g ≠ row) : Blk w' g cs t := by
  show w'.heap[g]? = _
  exact (hg.block g (blk_lt h) hr).trans h
theorem R_ne57 {w : World} {g b : Nat} {cs : Array Value} {ok : Nat → Prop} {u : Value} {l : List S29} (h : Blk w g cs 57) (hu : q29.R 29 w b ok u l) : u.ownBlock ≠ some g := fun e => by
  obtain ⟨c, hc⟩ := Kd.R_typed hu g e
  have h' : w.heap[g]? = _ := h
  rw [hc] at h'
  injection h' with h1
  injection h1 with _ h1
  exact absurd h1 (by decide)
theorem vol_at {w : World} {b : Nat} {S : Nat → Prop} {A : Option Addr} {c : Nat} {D : List S65} (hO : r65.R 65 w b S (.slice A D.length c) D) {i : Nat} (hi : i < D.length) :
    ∃ g A1 c1, A = some ⟨g, 0, none⟩ ∧ w.cell? ⟨g, i * 2, none⟩ = some (.string (D.getD i z65).f0) ∧ w.cell? ⟨g, i * 2 + 1, none⟩ = some (.slice A1 (D.getD i z65).f1.length c1) ∧ (D.getD i z65).f1.length ≤ c1 ∧
      ReadsRow (q29.M w b (fun k => S k ∧ k ≠ g)) 3 w A1 (D.getD i z65).f1.length (D.getD i z65).f1 := by
  obtain ⟨g, cap, e, _⟩ := Kd.R_form hO (by omega)
  injection e with e1 _ e2
  subst e1 e2
  obtain ⟨cs, hcl, hM, hcc, _⟩ := Kd.R_elem hO z65 (i : Int) (by omega) (by omega)
  rw [Int.toNat_natCast] at hM hcc
  obtain ⟨v1, rfl, hR⟩ := r65_openM hM
  obtain ⟨A1, c1, rfl, hl, hrr⟩ := OwnRow.reads hR.2
  refine ⟨g, A1, c1, rfl, hcc 0 _ rfl, hcc 1 _ rfl, hl, ?_⟩
  exact hrr.imp_ (Below.refl _ _) (fun _ _ hp => q29.M_mono (fun k hk => hk.1) hp)
set_option maxHeartbeats 4000000 in
set_option maxRecDepth 100000 in
theorem l2All_callr {w : World} {b : Nat} {S : Nat → Prop} {tx : Int} {A : Option Addr} {c : Nat} {D : List S65} (hO : r65.R 65 w b S (.slice A D.length c) D) (hb : b ≤ w.heap.size) (hl : D.length ≤ 10) (hD : GV D) :
    Calls Try.prog 86 #[.agg #[.int .i64 tx, .slice A D.length c]] w fun e w' => ∃ v, e = .returned v ∧ q29.R 29 w' b (fun k => S k ∨ w.heap.size ≤ k) v (ptrs D) ∧ Below w.heap.size w w' := by
  have hu29 := Try.underlying29
  have hu57 := Try.underlying57
  have hu65 := Try.underlying65
  have HB := Az.mk (Below.refl w.heap.size w)
  have HBS := Az.mk hb
  have HR0 := Az.mk hO
  have HL := Az.mk hl
  have HD := Az.mk hD
  clear hO hb hl hD
  go_enter Try.func86, Try.ntmps86
  go_wp2_with (first | ((with_reducible refine zqg (N := 1) rfl ?_); refine zqb ?hg (N := 1) ?hd (cs := #[.int .i64 tx, .slice A D.length c]) (t := 57) ?hr ?_; (case hd => rfl); (case hg => rfl); (case hr => first | (go_simp; done) | (go_simp; rfl)); intro gb hg w5 hbox hb; have n0_ := Az.mk (below_step zB hb); have BR := Az.mk (show Blk w5 gb #[.int .i64 tx, .slice A D.length c] 57 from hbox); clear HB; have HB := n0_; clear n0_ hbox hb hg) | ((with_reducible refine zqg (N := 5) rfl ?_); refine Kd.R_lit q29 (w0 := w) b 29 ?hg (N := 5) ?hd (xs := ([] : List S29)) (inner := []) (ok := fun k => S k ∨ w.heap.size ≤ k) (okp := fun k => S k ∨ w.heap.size ≤ k) ?hr ?hp (fun _ hk => hk) (.inr HB.out.size) (HB.out.mono HBS.out) (Nat.le_trans HBS.out HB.out.size) (by simp) ?_; (case hd => rfl); (case hg => rfl); (case hr => first | (go_simp; done) | (go_simp; rfl)); (case hp => exact (Reps.none _ _)); intro v17 w26 ho27 hb hg_ hnew_; have R17 := Az.mk ho27; have HO17 := Az.mk (own_new HB.out hnew_); have HB2 := Az.mk (HB.out.grown hg_ HB.out.size (fun k hk => by cases hk)); have BR2 := Az.mk (blk_grown BR.out hg_ (by simp)); clear HB BR ho27 hb hg_ hnew_; have HB := HB2; have BR := BR2; clear HB2 BR2) | go_in)
  go_loopg [3, 4] D.length (fun kq v3 v4 wr => ∃ (i : Nat), v4 = .int .i64 (i : Int) ∧ Az (i + kq = D.length) ∧ Az (q29.R 29 wr b (fun k => S k ∨ w.heap.size ≤ k) v3 (ptrs (D.take i))) ∧ Az (∀ k, v3.ownBlock = some k → w.heap.size ≤ k) ∧ Az (Blk wr gb #[.int .i64 tx, .slice A D.length c] 57) ∧ Az (Below w.heap.size w wr))
  case atStart => exact ⟨0, rfl, ⟨Nat.zero_add _⟩, R17, HO17, BR, HB⟩
  case round =>
    clear R17 HO17 BR HB
    obtain ⟨i, rfl, HI, HR, HO, BR, HB⟩ := hrel
    have hcz_0 := (BR.out.cell 0).trans rfl
    have hcz_1 := (BR.out.cell 1).trans rfl
    by_cases e1 : i < D.length
    · have e1b : decide ((i : Int) < (D.length : Int)) = true := decide_eq_true (by omega)
      have p1 := eq_true (show (0 : Int) ≤ (i : Int) by omega)
      have q1 := eq_true (show (i : Int) < (D.length : Int) by omega)
      obtain ⟨g, A1, c1, eA, hx_0, hx_1, hl1, hrd⟩ := vol_at (Kd.R_below HR0.out HB.out) e1
      subst eA
      have hpt := ptrs_take_len (vs := D) (fun x hx => (HD.out x hx).1) i (by omega)
      have htk := take65 D i e1
      have hx3 := (HD.out _ (getD_mem (z := z65) e1)).1
      obtain ⟨x, hX⟩ : ∃ x, x = D.getD i z65 := ⟨_, rfl⟩
      rw [← hX] at hx_0 hx_1 hl1 hrd htk hx3
      have HRD := Az.mk hrd
      have HLN : Az ((ptrs (D.take i)).length + x.f1.length ≤ 100) := ⟨by have := HL.out; omega⟩
      have HTK : Az (ptrs (D.take (i + 1)) = ptrs (D.take i) ++ x.f1) := ⟨by rw [htk]; simp [ptrs]⟩
      have HWi : Az (wrap64 ((i : Int) + 1) = ((i + 1 : Nat) : Int)) := ⟨by rw [Pure.wrap_ok (by have := HL.out; omega)]; omega⟩
      have HE1 := Az.mk e1
      clear hX hl1 hrd hpt htk hx3 e1
      go_wp2_with (first | ((with_reducible refine zqg (N := 20) rfl ?_); refine Kd.R_append_rows q29 (Rr := q29.M wr b (fun k => S k ∧ k ≠ g)) (w0 := w) b rfl (.tmp 13) (.tmp 19) 63 29 (.agg #[.int .i64 0, .int .i64 0, .slice none 0 0]) 40 rfl Try.underlying63 info29 rfl (by decide) (by omega) u3 (ptrs (D.take i)) x.f1 A1 x.f1.length c1 (fun k => S k ∨ w.heap.size ≤ k) (fun k => (S k ∧ k ≠ g) ∧ some k ≠ u3.ownBlock) rfl rfl HR.out HRD.out (fun x cs h => M_apart h HR.out) (fun k hk => ⟨.inl hk.1.1, hk.2⟩) (fun k hk => .inr (Nat.le_trans HB.out.size hk)) (HB.out.mono HBS.out) (Nat.le_trans HBS.out HB.out.size) (by have := HLN.out; omega) ?_; intro v1 w1 hR1 hB1 hg1 hat1; have R1 := Az.mk hR1; have HO1 := Az.mk (own_at HO.out HB.out hat1); have BR1 := Az.mk (blk_grown BR.out hg1 (fun e => R_ne57 BR.out HR.out e.symm)); have B1w := Az.mk (HB.out.grown hg1 HB.out.size (fun k hk => HO.out k hk)); clear hR1 hB1 hg1 hat1) | go_in)
      go_roundg (D.length - (i + 1))
      case measure => have := HI.out; have := HE1.out; omega
      case rel => exact ⟨i + 1, by rw [← HWi.out], ⟨by have := HE1.out; omega⟩, ⟨by rw [HTK.out]; exact R1.out⟩, HO1, BR1, B1w⟩
    · have e1b : decide ((i : Int) < (D.length : Int)) = false := decide_eq_false (by omega)
      have hi : i = D.length := by have := HI.out; omega
      subst hi
      clear e1
      go_wp2
      go_ret
      exact ⟨_, rfl, by have h := HR.out; rw [List.take_length] at h; exact h, HB.out⟩
end Go.Proofs.Ytkoimmeghdbodaa.Hq
namespace Go.Proofs.Ytkoimmeghdbodaa.Hq
open Go.RowKit Go.Proofs.Ytkoimmeghdbodaa.Print Go.Proofs.YtkoimmeghdbodaaW.PrintWords Go.Proofs.YtkoimmeghdbodaaW.PrintLast Go.Proofs.YtkoimmeghdbodaaW.PrintMore Go.Proofs.Ytkoimmeghdbodaa.Pure Go.Proofs.Ytkoimmeghdbodaa.Hd
theorem elem29 {wo : World} {b : Nat} {S : Nat → Prop} {A : Option Addr} {n c : Nat} {l : List S29} (V : q29.R 29 wo b S (.slice A n c) l) {i : Nat} (hi : i < l.length) :
    ∃ g A2 c2, A = some ⟨g, 0, none⟩ ∧ S g ∧ wo.cell? ⟨g, i * 3, none⟩ = some (.int .i64 (l.getD i z29).f0) ∧ wo.cell? ⟨g, i * 3 + 1, none⟩ = some (.int .i64 (l.getD i z29).f1) ∧ wo.cell? ⟨g, i * 3 + 2, none⟩ = some (.slice A2 (l.getD i z29).f2.length c2) ∧
      k37.Q 37 wo b S (.slice A2 (l.getD i z29).f2.length c2) (l.getD i z29).f2 := by
  obtain ⟨g, cap, e, _⟩ := Kd.R_form V (by omega)
  injection e with e1 e2 e3
  subst e1 e2 e3
  obtain ⟨cs, hcl, hM, hcc, _⟩ := Kd.R_elem V z29 (i : Int) (by omega) (by omega)
  rw [Int.toNat_natCast] at hM hcc
  obtain ⟨v2, rfl, hQ⟩ := q29_openM hM
  obtain ⟨A2, c2, rfl, _⟩ := Kd.Q_slice hQ
  exact ⟨g, A2, c2, rfl, V.1 g (by simp [Value.ownBlock]), hcc 0 _ rfl, hcc 1 _ rfl, hcc 2 _ rfl, Kd.Q_mono hQ fun k hk => hk.1⟩
section
variable {o : Oper} {a : Act}
theorem run_ld29 {w : World} {g f : Nat} {u0 u1 u2 : Value} (h0 : w.cell? ⟨g, f, none⟩ = some u0) (h1 : w.cell? ⟨g, f + 1, none⟩ = some u1) (h2 : w.cell? ⟨g, f + 2, none⟩ = some u2) {x : Operand} (ho : o.op = .load 29 x) (hx : a.eval x = .pointer (some ⟨g, f, none⟩)) :
    (execOp a.eval o).run Try.prog w = .ok (.value (.agg #[u0, u1, u2])) w := by
  have hr := run_loadVar_mid (P := Try.prog) w g f 29 [u0, u1, u2] _ (fun j v hv => by
    match j with
    | 0 => cases hv; exact h0
    | 1 => cases hv; exact h1
    | 2 => cases hv; exact h2
    | j + 3 => simp at hv) Try.underlying29 rfl (by kernel_rfl)
  unfold execOp
  simp only [ho, hx, Instr.loadAt, Instr.sureAddr, Sem.run_bind, Sem.run_pure, Result.andThen_ok, hr]
set_option maxRecDepth 100000 in
theorem run_st29 {w : World} {b : Nat} {S : Nat → Prop} {g n cap : Nat} {l : List S29} (V : q29.R 29 w b S (.slice (some ⟨g, 0, none⟩) n cap) l) {i : Nat} (hi : i < n) {x z : Operand} (ho : o.op = .store 29 x z) (hx : a.eval x = .pointer (some ⟨g, i * 3, none⟩)) {u0 u1 u2 : Value} (hz : a.eval z = .agg #[u0, u1, u2])
    (h1 : ∀ q ∈ [u0, u1, u2], q.oneCell' = true) : (execOp a.eval o).run Try.prog w = .ok .skip (w.setCells g (i * 3) [u0, u1, u2]) := by
  have hrun : (Instr.storeAt 29 (.pointer (some ⟨g, i * 3, none⟩)) (.agg #[u0, u1, u2])).run Try.prog w = .ok () (w.setCells g (i * 3) [u0, u1, u2]) := by
    obtain ⟨_, inner, hown, hr⟩ := V
    rcases hown.2 with ⟨hv, _⟩ | ⟨g', cap', cur, hv, hb, hh, hnc, hcm, hcs, _⟩
    · cases hv
    injection hv with ha hn hc
    injection ha with ha
    injection ha with hg'
    subst hg'; subst hc
    refine run_store_run 29 _ [u0, u1, u2] hh rfl (by kernel_rfl) ?_ h1
    have h2 : i * 3 + 3 ≤ n * 3 := by omega
    have h3 : n * 3 ≤ cap * 3 := by rw [hn]; omega
    have h4 : cur.size = cap * 3 := hcs
    show i * 3 + 3 ≤ cur.size
    omega
  unfold execOp
  simp only [ho, hx, hz, Sem.run_bind, Sem.run_pure, Result.andThen_ok, hrun]
end
section
variable {base : Nat} {ws w : World} {L : List Part} {S : Nat → Prop} {wo : World}
theorem Hq.rr {α : Type} {d : Kd α} {e b : Nat} {v : Value} {xs : List α} (H : Hq base ws w L) (j : Nat) (ej : L[j]? = some (.set S wo)) (h : d.R e wo b S v xs) : d.R e w b S v xs := Kd.R_move h (H.same j ej)
theorem Hq.qq {α : Type} {d : Kd α} {e b : Nat} {v : Value} {xs : List α} (H : Hq base ws w L) (j : Nat) (ej : L[j]? = some (.set S wo)) (h : d.Q e wo b S v xs) : d.Q e w b S v xs := Kd.Q_move h (H.same j ej)
theorem meet_callq {b : Nat} (H : Hq base ws w L) (j : Nat) (ej : L[j]? = some (.set S wo)) {y z : S29} {A1 A2 : Option Addr} {c1 c2 : Nat} (h1 : k37.Q 37 wo b S (.slice A1 y.f2.length c1) y.f2) (h2 : k37.Q 37 wo b S (.slice A2 z.f2.length c2) z.f2) (b1 : y.f2.length ≤ 5) (b2 : z.f2.length ≤ 5) :
    Calls Try.prog 87 #[.agg #[.int .i64 y.f0, .int .i64 y.f1, .slice A1 y.f2.length c1], .agg #[.int .i64 z.f0, .int .i64 z.f1, .slice A2 z.f2.length c2]] w fun e w' => ∃ r : Bool, e = .returned (.bool r) ∧ Below w.heap.size w w' := by
  obtain ⟨k, hk⟩ := Ev.rounds (meet_ev y z (by omega) (by omega))
  have q1 := Kd.Q_reads' (H.qq j ej h1)
  have q2 := Kd.Q_reads' (H.qq j ej h2)
  exact (spec_l2Meet.calls k y.f0 y.f1 A1 c1 y.f2 z.f0 z.f1 A2 c2 z.f2 _ w q1.2.2 q1.2.1 q2.2.2 q2.2.1 hk).mono fun e w' h => ⟨_, h.1, h.2⟩
theorem find_l0 (x : ByteArray) (tx : Int) (D : List S65) (hl : D.length ≤ 1000) (d : Nat) : ∀ i : Nat, i + d = D.length → ∃ r, Ev (fun k => spec_l13Find.l0 k x (i : Int) tx D) r := by
  induction d with
  | zero =>
    intro i hi
    refine ⟨-1, Ev.next ?_⟩
    simp only [spec_l13Find.l0]
    exact Ev.neg (by omega) (Ev.ret rfl)
  | succ d ih =>
    intro i hi
    have e : wrap64 ((i : Int) + 1) = ((i + 1 : Nat) : Int) := by rw [wrap_ok (by omega)]; omega
    by_cases c : ((rd_T65 D (i : Int)).f0).toList = x.toList
    · refine ⟨i, Ev.next ?_⟩
      simp only [spec_l13Find.l0]
      exact Ev.pos (by omega) (Ev.pos (by omega) (Ev.pos c (Ev.ret rfl)))
    · obtain ⟨r, hr⟩ := ih (i + 1) (by omega)
      refine ⟨r, Ev.next ?_⟩
      simp only [spec_l13Find.l0, e]
      clear e
      exact Ev.pos (by omega) (Ev.pos (by omega) (Ev.neg c hr))
theorem find_callq {b : Nat} (H : Hq base ws w L) (j : Nat) (ej : L[j]? = some (.set S wo)) {A : Option Addr} {c : Nat} {D : List S65} (O : r65.R 65 wo b S (.slice A D.length c) D) (hl : D.length ≤ 10) (tx : Int) (x : ByteArray) :
    Calls Try.prog 115 #[.agg #[.int .i64 tx, .slice A D.length c], .string x] w fun e w' => ∃ r : Int, e = .returned (.int .i64 r) ∧ Below w.heap.size w w' := by
  obtain ⟨r, hr⟩ := find_l0 x tx D (by omega) D.length 0 (Nat.zero_add _)
  obtain ⟨k, hk⟩ := Ev.rounds hr
  have q := Kd.R_reads' (H.rr j ej O)
  exact (spec_l13Find.calls k tx A c D x r w (C65r q.2.2) q.2.1 hk).mono fun e w' h => ⟨r, h.1, h.2⟩
theorem all_callq (H : Hq base ws w L) (j : Nat) (ej : L[j]? = some (.set S wo)) {A : Option Addr} {c : Nat} {D : List S65} (O : r65.R 65 wo base S (.slice A D.length c) D) (hl : D.length ≤ 10) (hD : GV D) (tx : Int) :
    Calls Try.prog 86 #[.agg #[.int .i64 tx, .slice A D.length c]] w fun e w' => ∃ v, e = .returned v ∧ q29.R 29 w' base (newS S w w') v (ptrs D) ∧ Hq base ws w' (L.set j (.set (newS S w w') w')) ∧ ∀ k, S k → newS S w w' k ∧ w'.heap[k]? = wo.heap[k]? := by
  refine (l2All_callr (H.rr j ej O) H.ge hl hD).mono fun e w' h => ?_
  obtain ⟨v, he, hR, hb⟩ := h
  exact ⟨v, he, Kd.R_mono (Kd.R_bound hR) fun k hk => ⟨hk.1, hk.2.2.1⟩, H.grow j ej hb, H.up j ej hb.size fun k hk => hb.block k (H.set_in j ej k hk).2⟩
theorem st29_of (H : Hq base ws w L) (j : Nat) (ej : L[j]? = some (.set S wo)) {vO : Value} {D : List S65} {g cap i : Nat} {l : List S29} {y : S29} {u0 u1 u2 : Value} (O : r65.R 65 wo base S vO D) (hD : GV D) (V : q29.R 29 wo base S (.slice (some ⟨g, 0, none⟩) 3 cap) l) (hl : GB l) (hi : i < 3) (hM : q29.M wo base S y [u0, u1, u2]) (hy : y.f2.length ≤ 5) :
    ∃ D' l', Hq base ws (w.setCells g (i * 3) [u0, u1, u2]) (L.set j (.set S (w.setCells g (i * 3) [u0, u1, u2]))) ∧ r65.R 65 (w.setCells g (i * 3) [u0, u1, u2]) base S vO D' ∧ q29.R 29 (w.setCells g (i * 3) [u0, u1, u2]) base S (.slice (some ⟨g, 0, none⟩) 3 cap) l' ∧ D'.length = D.length ∧ GV D' ∧ GB l' := by
  have V' := H.rr j ej V
  have O' := H.rr j ej O
  have M' := q29.M_move (H.same j ej) hM
  obtain ⟨cells, hc⟩ := Kd.R_typed V' g (by simp [Value.ownBlock])
  obtain ⟨D', d1, d2, d3⟩ := store_vols O' hD hi hc M' hy
  obtain ⟨c, c1, c2, c3, _⟩ := Kd.R_elem V' z29 (i : Int) (by omega) (by omega)
  have hs := Kd.R_seg V' (i : Int) (by omega) (by omega) (seg := [u0, u1, u2]) (j := 0) c1 c3 (Nat.le_refl _) (x' := y) (okp := fun k => S k ∧ k ≠ g) (by
    rw [List.take_zero, List.nil_append, List.drop_of_length_le (by rw [c1]; exact Nat.le_refl _), List.append_nil]
    exact Kd.M_types M' hc (fun q hq => by
      have : q ∈ [37] := hq
      have : q = 37 := by simpa using this
      subst this
      decide)) (fun k hk => hk)
  rw [Int.toNat_natCast, show i * q29.sz + 0 = i * 3 from rfl] at hs
  refine ⟨D', l.set i y, H.wrote' j ej (V.1 g (by simp [Value.ownBlock])) hs.2 (setCells_same g _ _ w).2.2.2, d1, hs.1, d2, d3, by rw [List.length_set]; exact hl.1, fun z hz => ?_⟩
  rcases List.mem_or_eq_of_mem_set hz with h | h
  · exact hl.2 z h
  · rw [h]; exact hy
end
section
variable {ops : Array Oper} {Q : Exit → Act → World → Prop} {rest : List Oper} {o : Oper} {a : Act} {b : Nat} {ws W : World} {L : List Part} {S : Nat → Prop} {wo : World} {Kc : Act → World → Prop}
theorem lit65 (u v : Value) (hgd : o.guard = none) (hrun : (execOp a.eval o).run Try.prog W = .ok (.value (.slice (some ⟨W.heap.size, 0, none⟩) 1 1)) (W.alloc (.cells #[u, v] 65)))
    (k : wpList Try.prog ops Q rest (a.put o.dst (.slice (some ⟨W.heap.size, 0, none⟩) 1 1)) (W.alloc (.cells #[u, v] 65))) : wpList Try.prog ops Q (o :: rest) a W := Kd.event_run hgd hrun k
theorem app65_of {w1 : World} (H : Hq b ws W L) (j : Nat) (ej : L[j]? = some (.set S wo)) {vO v1 : Value} {D D1 : List S65} (O : r65.R 65 wo b S vO D) (hr : r65.R 65 w1 b (fun k => S k ∨ W.heap.size ≤ k) v1 D1) (hb : Below b ws w1) (hg : W.grownBy w1 vO.ownBlock) :
    ∃ A c, v1 = .slice A D1.length c ∧ Hq b ws w1 (L.set j (.set (newS S W w1) w1)) ∧ r65.R 65 w1 b (newS S W w1) (.slice A D1.length c) D1 := by
  obtain ⟨A, c, rfl⟩ := Kd.R_slice hr
  have hbel := H.bel
  exact ⟨A, c, rfl, H.wrote j ej ⟨hb.os.trans hbel.os.symm, hb.tape.trans hbel.tape.symm, hb.output.trans hbel.output.symm, hg.size, fun k h1 => (hb.block k h1).trans (hbel.block k h1).symm⟩ (fun k h1 h2 => hg.block k h1 fun e => h2 (O.1 k e.symm)),
    Kd.R_mono (Kd.R_bound hr) fun k hk => ⟨hk.1, hk.2.2.1⟩⟩
theorem Hq.app65 (H : Hq b ws W L) (j : Nat) (ej : L[j]? = some (.set S wo)) {vO vB : Value} {D : List S65} {l : List S29} {s : ByteArray} (O : r65.R 65 wo b S vO D) (V : q29.R 29 wo b S vB l) (hl : D.length ≤ 1000) (hgd : o.guard = none) (x y : Operand) (ho : o.op = .call { callee := .builtin .append, args := #[x, y], argTypes := #[55, 55] }) (hx : a.eval x = vO) (hy : a.eval y = .slice (some ⟨W.heap.size, 0, none⟩) 1 1)
    (k : ∀ A c w1 (q : List S65), Az (q = D ++ [⟨s, l⟩]) → Az (Hq b ws w1 (L.set j (.set (newS S W w1) w1))) → Az (r65.R 65 w1 b (newS S W w1) (.slice A q.length c) q) → wpList Try.prog ops Q rest (a.put o.dst (.slice A q.length c)) w1) :
    wpList Try.prog ops Q (o :: rest) a (W.alloc (.cells #[.string s, vB] 65)) := by
  have O' := H.rr j ej O
  have V' := Kd.R_apartR (H.rr j ej V) O' (by decide)
  refine Kd.R_append r65 (w0 := ws) b hgd x y 55 65 (.agg #[.string ⟨#[]⟩, .slice none 0 0]) 40 ho Try.underlying55 info65 rfl (by decide) (by omega) vO D ⟨s, l⟩ [.string s, vB] (fun k => S k ∨ W.heap.size ≤ k) (fun k => S k ∧ some k ≠ vO.ownBlock) hx hy (r65_mkM (x := ⟨s, l⟩) V') (fun _ hk => ⟨.inl hk.1, hk.2⟩) (fun k hk => .inr hk) (Kd.R_mono O' fun _ hk => .inl hk) H.bel H.ge (by omega) ?_
  intro v1 w1 hr hb hg _
  obtain ⟨A, c, rfl, h1, h2⟩ := app65_of H j ej O hr hb hg
  exact k A c w1 _ ⟨rfl⟩ ⟨h1⟩ ⟨h2⟩
theorem Hq.app65_ (H : Hq b ws W L) (j : Nat) (ej : L[j]? = some (.set S wo)) {vO vB : Value} {D : List S65} {l : List S29} {s : ByteArray} (O : r65.R 65 wo b S vO D) (V : q29.R 29 wo b S vB l) (hl : D.length ≤ 1000) (hw : Region.wanted o (yielded ops a.tmps) = true) (x y : Operand) (ho : o.op = .call { callee := .builtin .append, args := #[x, y], argTypes := #[55, 55] }) (hx : a.eval x = vO) (hy : a.eval y = .slice (some ⟨W.heap.size, 0, none⟩) 1 1)
    (k : ∀ A c w1 (q : List S65), Az (q = D ++ [⟨s, l⟩]) → Az (Hq b ws w1 (L.set j (.set (newS S W w1) w1))) → Az (r65.R 65 w1 b (newS S W w1) (.slice A q.length c) q) → Kc (a.put o.dst (.slice A q.length c)) w1) :
    if Region.wanted o (yielded ops a.tmps) = true then Oper.wp Try.prog o a (W.alloc (.cells #[.string s, vB] 65)) Kc Q else Kc (a.put o.dst undef) (W.alloc (.cells #[.string s, vB] 65)) := by
  have O' := H.rr j ej O
  have V' := Kd.R_apartR (H.rr j ej V) O' (by decide)
  refine Kd.R_append_step r65 (w0 := ws) b hw x y 55 65 (.agg #[.string ⟨#[]⟩, .slice none 0 0]) 40 ho Try.underlying55 info65 rfl (by decide) (by omega) vO D ⟨s, l⟩ [.string s, vB] (fun k => S k ∨ W.heap.size ≤ k) (fun k => S k ∧ some k ≠ vO.ownBlock) hx hy (r65_mkM (x := ⟨s, l⟩) V') (fun _ hk => ⟨.inl hk.1, hk.2⟩) (fun k hk => .inr hk) (Kd.R_mono O' fun _ hk => .inl hk) H.bel H.ge (by omega) ?_
  intro v1 w1 hr hb hg _
  obtain ⟨A, c, rfl, h1, h2⟩ := app65_of H j ej O hr hb hg
  exact k A c w1 _ ⟨rfl⟩ ⟨h1⟩ ⟨h2⟩
end
end Go.Proofs.Ytkoimmeghdbodaa.Hq
namespace Go.Proofs.Ytkoimmeghdbodaa.Print
open Go.RowKit Go.Proofs.YtkoimmeghdbodaaW.PrintWords Go.Proofs.YtkoimmeghdbodaaW.PrintLast Go.Proofs.YtkoimmeghdbodaaW.PrintMore
attribute [local go_sem] max2_int min2_int max_two min_two max_three min_three max_four min_four
end Go.Proofs.Ytkoimmeghdbodaa.Print
namespace Go.Proofs.Ytkoimmeghdbodaa.Print
open Go.RowKit Go.Proofs.YtkoimmeghdbodaaW.PrintWords Go.Proofs.YtkoimmeghdbodaaW.PrintLast Go.Proofs.YtkoimmeghdbodaaW.PrintMore Go.Proofs.Ytkoimmeghdbodaa.Pure
structure Mk (lo hi : Nat) (w w' : World) : Prop where
  os : w'.os = w.os
  tape : w'.tape = w.tape
  output : w'.output = w.output
  size : w.heap.size ≤ w'.heap.size
  far : ∀ b, b < w.heap.size → (b < lo ∨ hi ≤ b) → w'.heap[b]? = w.heap[b]?
  typ : ∀ (b : Nat) (cs : Array Value) (t : Nat), w.heap[b]? = some (Obj.cells cs t (0, 0)) → ∃ cs' : Array Value, w'.heap[b]? = some (Obj.cells cs' t (0, 0)) ∧ cs'.size = cs.size ∧ (t = 29 → ∀ i, cs'[i * 3 + 2]? = cs[i * 3 + 2]?) ∧ (t = 65 → ∀ i, cs'[i * 2 + 1]? = cs[i * 2 + 1]?)
section
variable {lo hi : Nat} {w w' : World} {v : Value} {n : Nat}
end
end Go.Proofs.Ytkoimmeghdbodaa.Print
namespace Go.Proofs.Ytkoimmeghdbodaa.Print
open Go.RowKit Go.Proofs.YtkoimmeghdbodaaW.PrintWords Go.Proofs.YtkoimmeghdbodaaW.PrintLast Go.Proofs.YtkoimmeghdbodaaW.PrintMore
attribute [local go_sem] max2_int min2_int max_two min_two max_three min_three max_four min_four
end Go.Proofs.Ytkoimmeghdbodaa.Print
namespace Go.Proofs.Ytkoimmeghdbodaa.Print
open Go.RowKit Go.Proofs.YtkoimmeghdbodaaW.PrintWords Go.Proofs.YtkoimmeghdbodaaW.PrintLast Go.Proofs.YtkoimmeghdbodaaW.PrintMore
attribute [local go_sem] max2_int min2_int max_two min_two max_three min_three max_four min_four
end Go.Proofs.Ytkoimmeghdbodaa.Print
namespace Go.Proofs.Ytkoimmeghdbodaa.Take
open Go.RowKit Go.Proofs.YtkoimmeghdbodaaW.PrintWords
structure Opens {α : Type} (P : Program) (t : TypeId) (d : Kd α) (Wf : α → Prop) : Prop where
  sz : P.cellsOf t = d.sz
  opens : ∀ (H : Type) (enc : TypeId × Value → H) (w : World) (base : Nat) (spare : Nat → Bool) (held : Bool) (fuel : Nat) (cs : List Value) (x : DataW H × List MemPlace), DataW.trod enc P w base spare held fuel t cs = some x → ∃ y : α, d.K w y cs ∧ Wf y
theorem list_of {α : Type} {p : Nat → α → Prop} (n : Nat) (h : ∀ i, i < n → ∃ y, p i y) : ∃ l : List α, l.length = n ∧ ∀ i y, l[i]? = some y → p i y := by
  induction n with
  | zero => exact ⟨[], rfl, fun i y hy => by simp at hy⟩
  | succ n ih =>
    obtain ⟨l, hl, hp⟩ := ih (fun i hi => h i (by omega))
    obtain ⟨z, hz⟩ := h n (by omega)
    refine ⟨l ++ [z], by simp [hl], fun i y hy => ?_⟩
    by_cases hi : i < l.length
    · rw [List.getElem?_append_left hi] at hy
      exact hp i y hy
    · have hin : i = n := by
        have h1 := (List.getElem?_eq_some_iff.1 hy).1
        simp at h1
        omega
      subst hin
      rw [List.getElem?_append_right (by omega)] at hy
      have : z = y := by simpa [hl] using hy
      rw [← this]
      exact hz
theorem addr_add (a : Addr) (i j : Nat) : (a.add i).add j = a.add (i + j) := by
  unfold Addr.add
  by_cases hi : i = 0 <;> by_cases hj : j = 0 <;> simp [hi, hj, Nat.add_assoc]
section
variable {P : Program} {t e : TypeId}
theorem Opens.int {k : IntKind} (ht : P.underlying t = some (.int k)) (hs : P.cellsOf t = 1) : Opens P t (Kd.int k) (fun x => (Lit.int k x).wf = true) := ⟨hs, by
  intro H enc w base spare held fuel cs x h
  obtain ⟨n, rfl, _, hw⟩ := DataW.trod_int ht h
  exact ⟨n, rfl, hw⟩⟩
theorem Opens.slice {α : Type} {d : Kd α} {Wf : α → Prop} (ht : P.underlying t = some (.slice e)) (hs : P.cellsOf t = 1) (he : Opens P e d Wf) :
    Opens P t (Kd.slice e d) (fun l => l.length ≤ maxLen ∧ ∀ x ∈ l, Wf x) := ⟨hs, by
  intro H enc w base spare held fuel cs x h
  rcases DataW.trod_slice ht h with ⟨rfl, _⟩ | ⟨a, len, cap, elems, rest, n, _, rfl, _, _, hl, hm, hlen, hel, _⟩
  · exact ⟨[], ⟨none, 0, rfl, Nat.le_refl _, Kd.C_nil d w⟩, Nat.zero_le _, fun x hx => by simp at hx⟩
  · obtain ⟨l, hll, hp⟩ := list_of (p := fun i y => Wf y ∧ ∃ c, c.length = d.sz ∧ d.K w y c ∧ ∀ j u, c[j]? = some u → w.cell? (a.add (i * d.sz + j)) = some u) len (fun i hi => by
      have h1 := hel i hi
      rw [List.getElem?_eq_getElem (by omega)] at h1
      obtain ⟨cs', h2, h3⟩ := Option.bind_eq_some_iff.1 h1
      obtain ⟨_, h4, h5⟩ := World.cells?_some h2
      obtain ⟨y, hy, hw⟩ := he.opens H enc w base spare held n cs' _ h3
      refine ⟨y, hw, cs', h4.trans he.sz, hy, fun j u hu => ?_⟩
      have hj : j < P.cellsOf e := by
        have := (List.getElem?_eq_some_iff.1 hu).1
        omega
      have h6 := h5 j hj
      rw [addr_add, he.sz] at h6
      rw [h6, hu])
    refine ⟨l, ⟨some a, cap, by rw [hll], by omega, ?_⟩, by omega, fun x hx => ?_⟩
    · refine ⟨rfl, by have : maxLen = 9223372036854775807 := by decide
                      omega, fun _ => ⟨a, rfl, fun j p hj => (hp j p hj).2⟩⟩
    · obtain ⟨i, hi⟩ := List.getElem?_of_mem hx
      exact (hp i x hi).1⟩
structure Tail {α : Type} (P : Program) (fs : Array Field) (i o : Nat) (d : Kd α) (Wf : α → Prop) : Prop where
  opens : ∀ (H : Type) (enc : TypeId × Value → H) (w : World) (base : Nat) (spare : Nat → Bool) (held : Bool) (n : Nat) (cs : List Value) (xs : List (DataW H × List MemPlace)), xs.length = fs.size → cs.length = o + d.sz →
    (∀ (j : Nat) (f : Field), fs[j]? = some f → DataW.trod enc P w base spare held n f.type ((cs.drop f.offset).take (P.cellsOf f.type)) = xs[j]?) → ∃ y : α, d.K w y (cs.drop o) ∧ Wf y
theorem Opens.arg {α : Type} {d : Kd α} {Wf : List α → Prop} {H : Type} {enc : TypeId × Value → H} {w : World} {base : Nat} {spare : Nat → Bool} {held : Bool} {v : Value} {x : DataW H} {p : List MemPlace} (h : Opens P t (Kd.slice e d) Wf)
    (hv : v.cells.toList = [v]) (ht : DataW.Trod enc P w base spare held t v x p) : ∃ (A : Option Addr) (c : Nat) (l : List α), v = .slice A l.length c ∧ d.C w A l.length l ∧ l.length ≤ c ∧ Wf l := by
  obtain ⟨fuel, hf⟩ := ht
  rw [hv] at hf
  obtain ⟨l, ⟨A, c, hc, hl, hC⟩, hw⟩ := h.opens H enc w base spare held fuel _ _ hf
  exact ⟨A, c, l, by simpa using hc, hC, hl, hw⟩
end
end Go.Proofs.Ytkoimmeghdbodaa.Take
namespace Go.Proofs.Ytkoimmeghdbodaa.Take
open Go.RowKit Go.Proofs.Ytkoimmeghdbodaa.Print Go.Proofs.YtkoimmeghdbodaaW.PrintWords
def W5 (x : Int) : Prop := (Lit.int .u8 x).wf = true
theorem o5 : Opens Try.prog 5 (Kd.int .u8) W5 := Opens.int (by kernel_rfl) (by kernel_rfl)
def W33 (x : (List Int)) : Prop := x.length ≤ maxLen ∧ ∀ y ∈ x, W5 y
theorem o33 : Opens Try.prog 33 (Kd.slice 5 (Kd.int .u8)) W33 := Opens.slice Try.underlying33 (by kernel_rfl) o5
end Go.Proofs.Ytkoimmeghdbodaa.Take
namespace Go.Proofs.Ytkoimmeghdbodaa.Hd
open Go.RowKit Go.Proofs.Ytkoimmeghdbodaa.Print Go.Proofs.YtkoimmeghdbodaaW.PrintWords Go.Proofs.YtkoimmeghdbodaaW.PrintLast Go.Proofs.YtkoimmeghdbodaaW.PrintMore Go.Proofs.Ytkoimmeghdbodaa.Pure
abbrev AC := Option Addr × Nat
def cR (M : AC) (D : Int × List S65) : Array Value := #[.int .i64 D.1, .slice M.1 D.2.length M.2]
def pV (M : AC) (l : List S37) : Value := .slice M.1 l.length M.2
theorem cR_one (M : AC) (D : Int × List S65) : (cR M D).all (·.oneCell') = true := by simp [cR, Value.oneCell']
theorem size57 : (Try.prog.info? 57).map (·.size) = some 2 := by kernel_rfl
def OwP (wc : World) (B lo hi : Nat) (M : AC) (l : List S37) : Prop := Kd.R k37 37 wc B (fun k => lo ≤ k ∧ k < hi) (pV M l) l
def RdR (w : World) (M : AC) (D : List S65) : Prop := D.length ≤ M.2 ∧ Kd.C k65 w M.1 D.length D
def RdP (w : World) (M : AC) (l : List S37) : Prop := l.length ≤ M.2 ∧ Kd.C k37 w M.1 l.length l
section
variable {base : Nat} {w0 w wc : World} {L : List Part} {B lo hi : Nat} {M : AC}
end
theorem owP_of {w w' : World} {B : Nat} (hB : B ≤ w.heap.size) {v : Value} {l : List S37} (h : Kd.R k37 37 w' w.heap.size (fun _ => True) v l) : ∃ M, v = pV M l ∧ OwP w' B w.heap.size w'.heap.size M l := by
  obtain ⟨A, c, rfl⟩ := Kd.R_slice h
  exact ⟨(A, c), rfl, Kd.R_lower (Kd.R_mono (Kd.R_bound h) (fun k hk => ⟨hk.2.1, hk.2.2.1⟩)) hB⟩
theorem implPl_call (n tx : Int) {D : List S65} (hF : FitM D) {w : World} {M : AC} (h : RdR w M D) {B : Nat} (hB : B ≤ w.heap.size) :
    Calls Try.prog 41 #[.int .i64 n, .agg (cR M (tx, D))] w fun e w' => ∃ M', e = .returned (pV M' (rootPl n tx D)) ∧ OwP w' B w.heap.size w'.heap.size M' (rootPl n tx D) ∧ Below w.heap.size w w' := by
  refine (rootPlaces_call n tx M.1 M.2 D w h.2 h.1 hF.places).mono ?_
  rintro e w' ⟨v, rfl, hR, hb⟩
  obtain ⟨M', rfl, hO⟩ := owP_of hB hR
  exact ⟨M', rfl, hO, hb⟩
section
variable {w : World} {B lo hi : Nat} {ok : Nat → Prop} {v : Value}
end
theorem rootPl_len (n tx : Int) (vs : List S65) : (rootPl n tx vs).length ≤ 1048576 := by
  by_cases h : rootB n tx vs = true
  · rw [rootPl_grid n tx vs h]
    have := gridF_len (ptrs vs) (12 * n).toNat
    unfold rootB at h
    simp only [Bool.and_eq_true, decide_eq_true_iff] at h
    omega
  · unfold rootPl
    rw [if_neg h]
    simp
end Go.Proofs.Ytkoimmeghdbodaa.Hd
namespace Go.Proofs.Ytkoimmeghdbodaa.Hq
open Go.RowKit Go.Proofs.Ytkoimmeghdbodaa.Print Go.Proofs.YtkoimmeghdbodaaW.PrintWords Go.Proofs.YtkoimmeghdbodaaW.PrintLast Go.Proofs.YtkoimmeghdbodaaW.PrintMore Go.Proofs.Ytkoimmeghdbodaa.Pure Go.Proofs.Ytkoimmeghdbodaa.Hd
theorem size29q : (Try.prog.info? 29).map (·.size) = some 3 := by kernel_rfl
theorem size65q : (Try.prog.info? 65).map (·.size) = some 2 := by kernel_rfl
theorem size55q : (Try.prog.info? 55).map (·.size) = some 1 := by kernel_rfl
theorem size63q : (Try.prog.info? 63).map (·.size) = some 1 := by kernel_rfl
theorem size3q : (Try.prog.info? 3).map (·.size) = some 1 := by kernel_rfl
theorem new65 (W : World) {base : Nat} (hb : base ≤ W.heap.size) : r65.R 65 (W.alloc (.cells #[] 65)) base (fun k => k = W.heap.size) (.slice (some ⟨W.heap.size, 0, none⟩) 0 0) [] := by
  refine ⟨fun k hk => by simpa [Value.ownBlock] using hk.symm, [], ?_, Reps.none _ _⟩
  have h := World.ownsRow_lit (base := base) (e := 65) (size := r65.sz) W #[] 0 hb (by simp [maxLen]) (by simp)
  simpa using h
section
variable {ops : Array Oper} {Q : Exit → Act → World → Prop} {rest : List Oper} {o : Oper} {a : Act} {b : Nat} {ws W : World} {L : List Part} {S : Nat → Prop} {wo : World} {Kc : Act → World → Prop}
theorem Hq.none65 (H : Hq b ws W L) (hgd : o.guard = none)
    (hrun : (execOp a.eval o).run Try.prog W = .ok (.value (.slice (some ⟨W.heap.size, 0, none⟩) 0 0)) (W.alloc (.cells #[] 65)))
    (k : ∀ g w1, Az (Hq b ws w1 (.set (fun k => k = g) w1 :: L)) → Az (r65.R 65 w1 b (fun k => k = g) (.slice (some ⟨g, 0, none⟩) 0 0) []) → wpList Try.prog ops Q rest (a.put o.dst (.slice (some ⟨g, 0, none⟩) 0 0)) w1) : wpList Try.prog ops Q (o :: rest) a W :=
  Kd.event_run hgd hrun (k _ _ ⟨H.more (p := .set (fun k => k = W.heap.size) _) (zq2 (Below.refl _ _) _) (fun k hk => by obtain rfl : k = W.heap.size := hk; exact ⟨Nat.le_refl _, by simp⟩) (fun _ _ => rfl)⟩ ⟨new65 W H.ge⟩)
theorem Hq.make29_ (H : Hq b ws W L) (j : Nat) (ej : L[j]? = some (.set S wo)) (hw : Region.wanted o (yielded ops a.tmps) = true) {N : Tmp} (hd : o.dst = some N) (ho : o.op = .makeSlice 63 (.const (.int .i64 3)) (.const (.int .i64 3)))
    (k : ∀ g c w1, Az (Hq b ws w1 (L.set j (.set (newS S W w1) w1))) → (∀ k, S k → newS S W w1 k ∧ w1.heap[k]? = wo.heap[k]?) → Az (q29.R 29 w1 b (newS S W w1) (.slice (some ⟨g, 0, none⟩) 3 c) (List.replicate 3 z29)) → Kc (a.put o.dst (.slice (some ⟨g, 0, none⟩) 3 c)) w1) : if Region.wanted o (yielded ops a.tmps) = true then Oper.wp Try.prog o a W Kc Q else Kc (a.put o.dst undef) W := by
  refine Kd.R_make_step q29 (w0 := ws) b 29 hw hd 63 _ _ ho 3 rfl rfl Try.underlying63 (.agg #[.int .i64 0, .int .i64 0, .slice none 0 0]) 40 info29 rfl (by decide) (by omega) z29 (ok := fun k => W.heap.size ≤ k) (okp := fun _ => False) (q29_mkM (x := z29) (Kd.Q_nil _ _ _ _ _)) (fun _ h => h.elim) (Nat.le_refl _) (by omega) (by decide) H.bel H.ge ?_
  intro v1 w1 hr hb hg hf
  obtain ⟨g, c, rfl, _⟩ := Kd.R_form hr (by decide)
  have hbw : Below W.heap.size W w1 := ⟨hg.os, hg.tape, hg.output, hg.size, fun k hk => hg.block k hk (by simp)⟩
  exact k g c w1 ⟨H.grow j ej hbw⟩ (H.up j ej hg.size fun k hk => hg.block k (H.set_in j ej k hk).2 (by simp)) ⟨Kd.R_mono (Kd.R_bound hr) fun k hk => ⟨.inr hk.1, hk.2.2.1⟩⟩
theorem gb_new : GB (List.replicate 3 z29) := ⟨rfl, fun y hy => by rw [(List.mem_replicate.1 hy).2]; exact Nat.zero_le _⟩
theorem Hq.st29 (H : Hq b ws W L) (j : Nat) (ej : L[j]? = some (.set S wo)) {vO : Value} {D : List S65} {g cap i : Nat} {l : List S29} {y : S29} {u0 u1 u2 : Value} (O : r65.R 65 wo b S vO D) (hD : GV D) (V : q29.R 29 wo b S (.slice (some ⟨g, 0, none⟩) 3 cap) l) (hl : GB l) (hi : i < 3) (hM : q29.M wo b S y [u0, u1, u2]) (hy : y.f2.length ≤ 5)
    (hgd : o.guard = none) (hN : o.dst = none) {x z : Operand} (ho : o.op = .store 29 x z) (hx : a.eval x = .pointer (some ⟨g, i * 3, none⟩)) (hz : a.eval z = .agg #[u0, u1, u2])
    (k : ∀ D' l' w1, Az (Hq b ws w1 (L.set j (.set S w1))) → Az (r65.R 65 w1 b S vO D') → Az (q29.R 29 w1 b S (.slice (some ⟨g, 0, none⟩) 3 cap) l') → Az (D'.length = D.length) → Az (GV D') → Az (GB l') → wpList Try.prog ops Q rest a w1) : wpList Try.prog ops Q (o :: rest) a W := by
  obtain ⟨D', l', h1, h2, h3, h4, h5, h6⟩ := st29_of H j ej O hD V hl hi hM hy
  refine wpList_plain hgd fun K hK => ?_
  unfold Oper.wp
  rw [run_st29 (H.rr j ej V) hi ho hx hz (q29.K_one (q29.K_of_M hM))]
  show K (a.put o.dst undef) _
  rw [hN]
  exact hK _ _ (k D' l' _ ⟨h1⟩ ⟨h2⟩ ⟨h3⟩ ⟨h4⟩ ⟨h5⟩ ⟨h6⟩)
theorem Hq.st29_ (H : Hq b ws W L) (j : Nat) (ej : L[j]? = some (.set S wo)) {vO : Value} {D : List S65} {g cap i : Nat} {l : List S29} {y : S29} {u0 u1 u2 : Value} (O : r65.R 65 wo b S vO D) (hD : GV D) (V : q29.R 29 wo b S (.slice (some ⟨g, 0, none⟩) 3 cap) l) (hl : GB l) (hi : i < 3) (hM : q29.M wo b S y [u0, u1, u2]) (hy : y.f2.length ≤ 5)
    (hw : Region.wanted o (yielded ops a.tmps) = true) (hN : o.dst = none) {x z : Operand} (ho : o.op = .store 29 x z) (hx : a.eval x = .pointer (some ⟨g, i * 3, none⟩)) (hz : a.eval z = .agg #[u0, u1, u2])
    (k : ∀ D' l' w1, Az (Hq b ws w1 (L.set j (.set S w1))) → Az (r65.R 65 w1 b S vO D') → Az (q29.R 29 w1 b S (.slice (some ⟨g, 0, none⟩) 3 cap) l') → Az (D'.length = D.length) → Az (GV D') → Az (GB l') → Kc a w1) : if Region.wanted o (yielded ops a.tmps) = true then Oper.wp Try.prog o a W Kc Q else Kc (a.put none undef) W := by
  obtain ⟨D', l', h1, h2, h3, h4, h5, h6⟩ := st29_of H j ej O hD V hl hi hM hy
  exact last_st hw hN (run_st29 (H.rr j ej V) hi ho hx hz (q29.K_one (q29.K_of_M hM))) (k D' l' _ ⟨h1⟩ ⟨h2⟩ ⟨h3⟩ ⟨h4⟩ ⟨h5⟩ ⟨h6⟩)
end
def DrawsRoot (w0 : World) (b : List Int) (g m : Nat) (w : World) (e : Ending) (w' : World) : Prop := ∃ (tx : Int) (M : AC) (D : List S65) (cs' : Array Value), e = .returned (.agg (cR M (tx, D))) ∧ GV D ∧ D.length ≤ 4 ∧ r65.R 65 w' w0.heap.size (fun k => w.heap.size ≤ k ∧ k < w'.heap.size) (.slice M.1 D.length M.2) D ∧ Rdr w0 b m cs' ∧ w'.heap[g]? = some (.cells cs' 113 (0, 0)) ∧ Below w0.heap.size w w' ∧ ∀ k, k < w.heap.size → k ≠ g → w'.heap[k]? = w.heap[k]?
theorem Hq.start_box' {g : Nat} {cs : Array Value} {t : TypeId} {base : Nat} (w : World) (hb : base ≤ g) (hbox : w.heap[g]? = some (.cells cs t (0, 0))) : Hq base w w [.box g cs t, .set (fun k => k ≠ g ∧ base ≤ k ∧ k < w.heap.size) w] := Hq.start_box w hb hbox
theorem own_in {b : Nat} {w w' : World} {L : List Part} (H : Hq b w w' L) {g : Nat} {cs' : Array Value} (ig ir io : Nat) (eg : L[ig]? = some (.box g cs' 113)) (er : L[ir]? = some (.set (fun k => k ≠ g ∧ b ≤ k ∧ k < w.heap.size) w)) {S : Nat → Prop} {wo : World} (eo : L[io]? = some (.set S wo)) (n1 : io ≠ ig) (n2 : io ≠ ir) (k : Nat) (hS : S k) : w.heap.size ≤ k ∧ k < w'.heap.size := by
  have hin := H.set_in io eo k hS
  refine ⟨Nat.le_of_not_lt fun hlt => ?_, hin.2⟩
  by_cases hg : k = g
  · exact H.apart io ig n1 eo eg k hS hg
  · exact H.apart io ir n2 eo er k hS ⟨hg, hin.1, hlt⟩
theorem kept_in {b : Nat} {w w' : World} {L : List Part} (H : Hq b w w' L) {g : Nat} (ir : Nat) (er : L[ir]? = some (.set (fun k => k ≠ g ∧ b ≤ k ∧ k < w.heap.size) w)) : ∀ k, k < w.heap.size → k ≠ g → w'.heap[k]? = w.heap[k]? := fun k h1 h2 => by
  by_cases hb : b ≤ k
  · exact H.same ir er k ⟨h2, hb, h1⟩
  · exact H.bel.block k (by omega)
end Go.Proofs.Ytkoimmeghdbodaa.Hq
