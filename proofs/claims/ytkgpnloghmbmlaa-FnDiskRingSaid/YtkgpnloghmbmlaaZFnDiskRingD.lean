/- Proved, with what follows on it: the row of the law FnDiskRing. Conditions: the row's alone. Texts of this session and words that the kit's print laid for this seat, merged and cut by shrink.py, a program of this session. -/
import Derived.Test.YtkgpnloghmbmlaaZFnDiskRingC
namespace Go.Proofs.Ytkgpnloghmbmlaa.Print
open Go.RowKit Go.Proofs.YtkgpnloghmbmlaaW.PrintWords Go.Proofs.YtkgpnloghmbmlaaW.PrintLast Go.Proofs.YtkgpnloghmbmlaaW.PrintMore
attribute [local go_sem] max2_int min2_int max_two min_two max_three min_three max_four min_four   -- for this text's walks alone
set_option linter.unusedVariables false
set_option linter.unusedSimpArgs false
def spec_l3Come.f (a0_0 : Int) (l0_1 : List ByteArray) (l0_2 : List ByteArray) (l0_3 : List Bool) (l0_4 : List (S54)) (a1_0 : Bool) (a1_1 : Int) (a1_2 : ByteArray) : Option (Int × List ByteArray × List ByteArray × List Bool × (List (S54))) := if a1_0 = true then (if 0 ≤ a1_1 then (if a1_1 < (l0_2.length : Int) then (some (a0_0, l0_1, (l0_2.set (a1_1 : Int).toNat a1_2), l0_3, l0_4)) else (none)) else (none)) else (if 0 ≤ a1_1 then (if a1_1 < (l0_1.length : Int) then (if a1_1 < (l0_3.length : Int) then (some (a0_0, (l0_1.set (a1_1 : Int).toNat a1_2), l0_2, (l0_3.set (a1_1 : Int).toNat false), l0_4)) else (none)) else (none)) else (none))
set_option maxHeartbeats 8000000 in
set_option maxRecDepth 100000 in
theorem spec_l3Come.calls (a0_0 : Int) (P0_1_ : Nat → Prop) (u9000_ : Value) (l0_1 : List ByteArray) (P0_2_ : Nat → Prop) (u9001_ : Value) (l0_2 : List ByteArray) (P0_3_ : Nat → Prop) (u9002_ : Value) (l0_3 : List Bool) (P0_4_ : Nat → Prop) (u9003_ : Value) (l0_4 : List (S54)) (a1_0 : Bool) (a1_1 : Int) (a1_2 : ByteArray) (r1 : Int) (r2 : List ByteArray) (r3 : List ByteArray) (r4 : List Bool) (r5 : List (S54)) (w0 w : World) (hB : Below w0.heap.size w0 w) (ho0_1 : Kd.R Kd.string 9 w w0.heap.size P0_1_ u9000_ l0_1) (hp0_1_0_2 : ∀ k_, P0_1_ k_ → ¬ P0_2_ k_) (ho0_2 : Kd.R Kd.string 9 w w0.heap.size P0_2_ u9001_ l0_2) (hp0_2_0_1 : ∀ k_, P0_2_ k_ → ¬ P0_1_ k_) (ho0_3 : Kd.R Kd.bool 4 w w0.heap.size P0_3_ u9002_ l0_3) (ho0_4 : Kd.R k54 54 w w0.heap.size P0_4_ u9003_ l0_4) (h : spec_l3Come.f a0_0 l0_1 l0_2 l0_3 l0_4 a1_0 a1_1 a1_2 = some (r1, r2, r3, r4, r5)) :
  Calls Try.prog 101 #[.agg #[.int .i64 a0_0, u9000_, u9001_, u9002_, u9003_], .agg #[.bool a1_0, .int .i64 a1_1, .string a1_2]] w fun e w' => ∃ v1_ v2_ v3_ v4_ : Value, e = .returned (.agg #[.int .i64 r1, v1_, v2_, v3_, v4_]) ∧ Kd.R Kd.string 9 w' w0.heap.size (fun k_ => ((P0_1_ k_ ∨ P0_2_ k_ ∨ P0_3_ k_ ∨ P0_4_ k_) ∨ w.heap.size ≤ k_) ∧ some k_ ≠ (v2_ : Value).ownBlock) v1_ r2 ∧ Kd.R Kd.string 9 w' w0.heap.size (fun k_ => ((P0_1_ k_ ∨ P0_2_ k_ ∨ P0_3_ k_ ∨ P0_4_ k_) ∨ w.heap.size ≤ k_) ∧ some k_ ≠ (v1_ : Value).ownBlock) v2_ r3 ∧ Kd.R Kd.bool 4 w' w0.heap.size (fun k_ => ((P0_1_ k_ ∨ P0_2_ k_ ∨ P0_3_ k_ ∨ P0_4_ k_) ∨ w.heap.size ≤ k_)) v3_ r4 ∧ Kd.R k54 54 w' w0.heap.size (fun k_ => ((P0_1_ k_ ∨ P0_2_ k_ ∨ P0_3_ k_ ∨ P0_4_ k_) ∨ w.heap.size ≤ k_)) v4_ r5 ∧ Below w0.heap.size w0 w' ∧ Kept w w' (fun k_ => P0_1_ k_ ∨ P0_2_ k_ ∨ P0_3_ k_ ∨ P0_4_ k_) := by
 have hu28 := Try.underlying28
 have hu54 := Try.underlying54
 have HO0_1 := Az.mk (show Kd.R Kd.string 9 w w0.heap.size (fun k_ => ((P0_1_ k_ ∨ P0_2_ k_ ∨ P0_3_ k_ ∨ P0_4_ k_) ∨ w.heap.size ≤ k_) ∧ some k_ ≠ (u9001_ : Value).ownBlock) u9000_ l0_1 from Kd.R_mono ho0_1 (fun k_ hk => ⟨(.inl (.inl hk)), fun e_ => hp0_1_0_2 k_ hk (ho0_2.1 k_ e_.symm)⟩))
 have HO0_2 := Az.mk (show Kd.R Kd.string 9 w w0.heap.size (fun k_ => ((P0_1_ k_ ∨ P0_2_ k_ ∨ P0_3_ k_ ∨ P0_4_ k_) ∨ w.heap.size ≤ k_) ∧ some k_ ≠ (u9000_ : Value).ownBlock) u9001_ l0_2 from Kd.R_mono ho0_2 (fun k_ hk => ⟨(.inl (.inr (.inl hk))), fun e_ => hp0_2_0_1 k_ hk (ho0_1.1 k_ e_.symm)⟩))
 have HO0_3 := Az.mk (show Kd.R Kd.bool 4 w w0.heap.size (fun k_ => ((P0_1_ k_ ∨ P0_2_ k_ ∨ P0_3_ k_ ∨ P0_4_ k_) ∨ w.heap.size ≤ k_)) u9002_ l0_3 from Kd.R_mono ho0_3 (fun k_ hk => (.inl (.inr (.inr (.inl hk))))))
 have HO0_4 := Az.mk (show Kd.R k54 54 w w0.heap.size (fun k_ => ((P0_1_ k_ ∨ P0_2_ k_ ∨ P0_3_ k_ ∨ P0_4_ k_) ∨ w.heap.size ≤ k_)) u9003_ l0_4 from Kd.R_mono ho0_4 (fun k_ hk => (.inl (.inr (.inr (.inr hk))))))
 have HK := Az.mk (Kept.refl w (fun k_ => P0_1_ k_ ∨ P0_2_ k_ ∨ P0_3_ k_ ∨ P0_4_ k_))
 have HW0 := Az.mk hB.size
 have HB := Az.mk hB
 clear hB
 have H : (if a1_0 = true then (if 0 ≤ a1_1 then (if a1_1 < (l0_2.length : Int) then (some (a0_0, l0_1, (l0_2.set (a1_1 : Int).toNat a1_2), l0_3, l0_4)) else (none)) else (none)) else (if 0 ≤ a1_1 then (if a1_1 < (l0_1.length : Int) then (if a1_1 < (l0_3.length : Int) then (some (a0_0, (l0_1.set (a1_1 : Int).toNat a1_2), l0_2, (l0_3.set (a1_1 : Int).toNat false), l0_4)) else (none)) else (none)) else (none))) = some (r1, r2, r3, r4, r5) := h
 clear h
 by_cases c3 : a1_0 = true
 ·subst c3
  have H1 : (if 0 ≤ a1_1 then (if a1_1 < (l0_2.length : Int) then (some (a0_0, l0_1, (l0_2.set (a1_1 : Int).toNat a1_2), l0_3, l0_4)) else (none)) else (none)) = some (r1, r2, r3, r4, r5) := by rw [if_pos rfl] at H; exact H
  clear H
  have H := H1
  clear H1
  by_cases c4 : 0 ≤ a1_1
  ·rw [if_pos c4] at H
   have c4b0 : decide (0 ≤ a1_1) = true := decide_eq_true c4
   clear c4
   by_cases c5 : a1_1 < (l0_2.length : Int)
   ·rw [if_pos c5] at H
    have c5b0 : decide (a1_1 < (l0_2.length : Int)) = true := decide_eq_true c5
    clear c5
    obtain ⟨y485, hy485⟩ : ∃ y_ : List ByteArray, y_ = (l0_2.set (a1_1 : Int).toNat a1_2) := ⟨_, rfl⟩
    replace H : (some (a0_0, l0_1, y485, l0_3, l0_4)) = some (r1, r2, r3, r4, r5) := by first | (rw [hy485]; with_reducible exact H) | (have H2_ := (Option.bind_some _ _).symm.trans H; rw [hy485]; with_reducible exact H2_) | (have H2_ := (Option.bind_some _ _).symm.trans H; with_reducible exact H2_) | with_reducible exact H | (rw [hy485]; exact H) | exact H
    have Ny485 := Az.mk hy485
    clear hy485
    simp only [Option.some.injEq, Prod.mk.injEq] at H
    obtain ⟨rfl, rfl, rfl, rfl, rfl⟩ := H
    obtain ⟨Ao7, co7, eo7⟩ := Kd.R_slice HO0_1.out
    subst eo7
    obtain ⟨Ao8, co8, eo8⟩ := Kd.R_slice HO0_2.out
    subst eo8
    obtain ⟨Ao9, co9, eo9⟩ := Kd.R_slice HO0_3.out
    subst eo9
    obtain ⟨Ao10, co10, eo10⟩ := Kd.R_slice HO0_4.out
    subst eo10
    go_enter Try.func101, Try.ntmps101
    go_wp2_with (first | ((with_reducible refine zqg (N := 2) rfl ?_); refine zqb ?hg (N := 2) ?hd (cs := #[.int .i64 a0_0, .slice Ao7 l0_1.length co7, .slice Ao8 l0_2.length co8, .slice Ao9 l0_3.length co9, .slice Ao10 l0_4.length co10]) (t := 28) ?hr ?_; (case hd => rfl); (case hg => rfl); (case hr => first | (go_simp; done) | (go_simp; rfl)); intro gb482 hg w11 hbox hb; have n0_ := Az.mk (Kd.R_below (by (with_reducible repeat (first | apply Kd.R_alloc | apply Kd.R_drewN | apply Kd.R_drew)); exact HO0_1.out) hb); have n1_ := Az.mk (Kd.R_below (by (with_reducible repeat (first | apply Kd.R_alloc | apply Kd.R_drewN | apply Kd.R_drew)); exact HO0_2.out) hb); have n2_ := Az.mk (Kd.R_below (by (with_reducible repeat (first | apply Kd.R_alloc | apply Kd.R_drewN | apply Kd.R_drew)); exact HO0_3.out) hb); have n3_ := Az.mk (Kd.R_below (by (with_reducible repeat (first | apply Kd.R_alloc | apply Kd.R_drewN | apply Kd.R_drew)); exact HO0_4.out) hb); have n4_ := Az.mk (Kept.below (S := (fun k_ => P0_1_ k_ ∨ P0_2_ k_ ∨ P0_3_ k_ ∨ P0_4_ k_)) (by repeat (first | (with_reducible first | exact HK.out | apply Kept.alloc | apply Kept.drewN | apply Kept.drew) | exact HK.out)) hb); have n5_ := Az.mk (below_step (by repeat (first | (with_reducible first | exact HB.out | apply zq2 | apply zq1 | apply zqd) | exact HB.out)) hb); have n6_ := Az.mk (hbox); have n7_ := Az.mk ((by rw [hg]; exact (by first | exact HK.out.1 | exact (show Kept w _ (fun k_ => P0_1_ k_ ∨ P0_2_ k_ ∨ P0_3_ k_ ∨ P0_4_ k_) from by repeat (first | (with_reducible first | exact HK.out | apply Kept.alloc | apply Kept.drewN | apply Kept.drew) | exact HK.out)).1) : w.heap.size ≤ gb482)); have n8_ := Az.mk ((by rw [hg]; exact (below_size (by repeat (first | (with_reducible first | exact HB.out | apply zq2 | apply zq1 | apply zqd) | exact HB.out))) : w0.heap.size ≤ gb482)); clear HO0_1; clear HO0_2; clear HO0_3; clear HO0_4; clear HK; clear HB; have HO0_1 := n0_; have HO0_2 := n1_; have HO0_3 := n2_; have HO0_4 := n3_; have HK := n4_; have HB := n5_; have BK482 := n6_; have GW482 := n7_; have GE482 := n8_; clear n0_ n1_ n2_ n3_ n4_ n5_ n6_ n7_ n8_; clear hb hbox hg) | ((with_reducible refine zqg (N := 3) rfl ?_); refine zqb ?hg (N := 3) ?hd (cs := #[.bool true, .int .i64 a1_1, .string a1_2]) (t := 54) ?hr ?_; (case hd => rfl); (case hg => rfl); (case hr => first | (go_simp; done) | (go_simp; rfl)); intro gb483 hg w12 hbox hb; have n0_ := Az.mk (Kd.R_below (by (with_reducible repeat (first | apply Kd.R_alloc | apply Kd.R_drewN | apply Kd.R_drew)); exact HO0_1.out) hb); have n1_ := Az.mk (Kd.R_below (by (with_reducible repeat (first | apply Kd.R_alloc | apply Kd.R_drewN | apply Kd.R_drew)); exact HO0_2.out) hb); have n2_ := Az.mk (Kd.R_below (by (with_reducible repeat (first | apply Kd.R_alloc | apply Kd.R_drewN | apply Kd.R_drew)); exact HO0_3.out) hb); have n3_ := Az.mk (Kd.R_below (Kd.R_elderB (by (with_reducible repeat (first | apply Kd.R_alloc | apply Kd.R_drewN | apply Kd.R_drew)); exact HO0_4.out) gb483 (Nat.le_of_eq hg.symm)) hb); have n4_ := Az.mk (blk_below (g := gb482) (o := .cells #[.int .i64 a0_0, .slice Ao7 l0_1.length co7, .slice Ao8 l0_2.length co8, .slice Ao9 l0_3.length co9, .slice Ao10 l0_4.length co10] 28 (0, 0)) (by (with_reducible repeat (first | refine zq6 ?_ _ | refine zq8 ?_ | refine zq7 ?_ _)); exact BK482.out) hb); have n5_ := Az.mk (Kept.below (S := (fun k_ => P0_1_ k_ ∨ P0_2_ k_ ∨ P0_3_ k_ ∨ P0_4_ k_)) (by repeat (first | (with_reducible first | exact HK.out | apply Kept.alloc | apply Kept.drewN | apply Kept.drew | refine Kept.setCell ?_ (.inr GW482.out) _) | exact HK.out)) hb); have n6_ := Az.mk (below_step (by repeat (first | (with_reducible first | exact HB.out | apply zq2 | apply zq1 | apply zqd | refine zq3 ?_ GE482.out) | exact HB.out)) hb); have n7_ := Az.mk (hbox); have n8_ := Az.mk ((by rw [hg]; exact (by first | exact HK.out.1 | exact (show Kept w _ (fun k_ => P0_1_ k_ ∨ P0_2_ k_ ∨ P0_3_ k_ ∨ P0_4_ k_) from by repeat (first | (with_reducible first | exact HK.out | apply Kept.alloc | apply Kept.drewN | apply Kept.drew | refine Kept.setCell ?_ (.inr GW482.out) _) | exact HK.out)).1) : w.heap.size ≤ gb483)); have n9_ := Az.mk ((by rw [hg]; exact (below_size (by repeat (first | (with_reducible first | exact HB.out | apply zq2 | apply zq1 | apply zqd | refine zq3 ?_ GE482.out) | exact HB.out))) : w0.heap.size ≤ gb483)); have n10_ := Az.mk ((by rw [hg]; exact Nat.ne_of_lt (blk_lt (g := gb482) (o := .cells #[.int .i64 a0_0, .slice Ao7 l0_1.length co7, .slice Ao8 l0_2.length co8, .slice Ao9 l0_3.length co9, .slice Ao10 l0_4.length co10] 28 (0, 0)) (by (with_reducible repeat (first | refine zq6 ?_ _ | refine zq8 ?_ | refine zq7 ?_ _)); exact BK482.out)) : gb482 ≠ gb483)); have n11_ := Az.mk ((by rw [hg]; exact Nat.ne_of_gt (blk_lt (g := gb482) (o := .cells #[.int .i64 a0_0, .slice Ao7 l0_1.length co7, .slice Ao8 l0_2.length co8, .slice Ao9 l0_3.length co9, .slice Ao10 l0_4.length co10] 28 (0, 0)) (by (with_reducible repeat (first | refine zq6 ?_ _ | refine zq8 ?_ | refine zq7 ?_ _)); exact BK482.out)) : gb483 ≠ gb482)); clear HO0_1; clear HO0_2; clear HO0_3; clear HO0_4; clear BK482; clear HK; clear HB; have HO0_1 := n0_; have HO0_2 := n1_; have HO0_3 := n2_; have HO0_4 := n3_; have BK482 := n4_; have HK := n5_; have HB := n6_; have BK483 := n7_; have GW483 := n8_; have GE483 := n9_; have NB482_483 := n10_; have NB483_482 := n11_; clear n0_ n1_ n2_ n3_ n4_ n5_ n6_ n7_ n8_ n9_ n10_ n11_; clear hb hbox hg) | ((with_reducible refine zqg (N := 4) rfl ?_); refine zqb ?hg (N := 4) ?hd (cs := #[.int .i64 0, .slice none 0 0, .slice none 0 0, .slice none 0 0, .slice none 0 0]) (t := 28) ?hr ?_; (case hd => rfl); (case hg => rfl); (case hr => first | (go_simp; done) | (go_simp; rfl)); intro gb484 hg w13 hbox hb; have n0_ := Az.mk (Kd.R_below (by (with_reducible repeat (first | apply Kd.R_alloc | apply Kd.R_drewN | apply Kd.R_drew)); exact HO0_1.out) hb); have n1_ := Az.mk (Kd.R_below (by (with_reducible repeat (first | apply Kd.R_alloc | apply Kd.R_drewN | apply Kd.R_drew)); exact HO0_2.out) hb); have n2_ := Az.mk (Kd.R_below (by (with_reducible repeat (first | apply Kd.R_alloc | apply Kd.R_drewN | apply Kd.R_drew)); exact HO0_3.out) hb); have n3_ := Az.mk (Kd.R_below (by (with_reducible repeat (first | apply Kd.R_alloc | apply Kd.R_drewN | apply Kd.R_drew)); exact HO0_4.out) hb); have n4_ := Az.mk (blk_below (g := gb482) (o := .cells #[.int .i64 a0_0, .slice Ao7 l0_1.length co7, .slice Ao8 l0_2.length co8, .slice Ao9 l0_3.length co9, .slice Ao10 l0_4.length co10] 28 (0, 0)) (by (with_reducible repeat (first | refine zq6 ?_ _ | refine zq8 ?_ | refine zq7 ?_ _)); exact BK482.out) hb); have n5_ := Az.mk (blk_below (g := gb483) (o := .cells #[.bool true, .int .i64 a1_1, .string a1_2] 54 (0, 0)) (by (with_reducible repeat (first | refine zq6 ?_ _ | refine zq8 ?_ | refine zq7 ?_ _)); exact BK483.out) hb); have n6_ := Az.mk (Kept.below (S := (fun k_ => P0_1_ k_ ∨ P0_2_ k_ ∨ P0_3_ k_ ∨ P0_4_ k_)) (by repeat (first | (with_reducible first | exact HK.out | apply Kept.alloc | apply Kept.drewN | apply Kept.drew | refine Kept.setCell ?_ (.inr GW482.out) _ | refine Kept.setCell ?_ (.inr GW483.out) _) | exact HK.out)) hb); have n7_ := Az.mk (below_step (by repeat (first | (with_reducible first | exact HB.out | apply zq2 | apply zq1 | apply zqd | refine zq3 ?_ GE482.out | refine zq3 ?_ GE483.out) | exact HB.out)) hb); have n8_ := Az.mk (hbox); have n9_ := Az.mk ((by rw [hg]; exact (by first | exact HK.out.1 | exact (show Kept w _ (fun k_ => P0_1_ k_ ∨ P0_2_ k_ ∨ P0_3_ k_ ∨ P0_4_ k_) from by repeat (first | (with_reducible first | exact HK.out | apply Kept.alloc | apply Kept.drewN | apply Kept.drew | refine Kept.setCell ?_ (.inr GW482.out) _ | refine Kept.setCell ?_ (.inr GW483.out) _) | exact HK.out)).1) : w.heap.size ≤ gb484)); have n10_ := Az.mk ((by rw [hg]; exact (below_size (by repeat (first | (with_reducible first | exact HB.out | apply zq2 | apply zq1 | apply zqd | refine zq3 ?_ GE482.out | refine zq3 ?_ GE483.out) | exact HB.out))) : w0.heap.size ≤ gb484)); have n11_ := Az.mk ((by rw [hg]; exact Nat.ne_of_lt (blk_lt (g := gb482) (o := .cells #[.int .i64 a0_0, .slice Ao7 l0_1.length co7, .slice Ao8 l0_2.length co8, .slice Ao9 l0_3.length co9, .slice Ao10 l0_4.length co10] 28 (0, 0)) (by (with_reducible repeat (first | refine zq6 ?_ _ | refine zq8 ?_ | refine zq7 ?_ _)); exact BK482.out)) : gb482 ≠ gb484)); have n12_ := Az.mk ((by rw [hg]; exact Nat.ne_of_gt (blk_lt (g := gb482) (o := .cells #[.int .i64 a0_0, .slice Ao7 l0_1.length co7, .slice Ao8 l0_2.length co8, .slice Ao9 l0_3.length co9, .slice Ao10 l0_4.length co10] 28 (0, 0)) (by (with_reducible repeat (first | refine zq6 ?_ _ | refine zq8 ?_ | refine zq7 ?_ _)); exact BK482.out)) : gb484 ≠ gb482)); have n13_ := Az.mk ((by rw [hg]; exact Nat.ne_of_lt (blk_lt (g := gb483) (o := .cells #[.bool true, .int .i64 a1_1, .string a1_2] 54 (0, 0)) (by (with_reducible repeat (first | refine zq6 ?_ _ | refine zq8 ?_ | refine zq7 ?_ _)); exact BK483.out)) : gb483 ≠ gb484)); have n14_ := Az.mk ((by rw [hg]; exact Nat.ne_of_gt (blk_lt (g := gb483) (o := .cells #[.bool true, .int .i64 a1_1, .string a1_2] 54 (0, 0)) (by (with_reducible repeat (first | refine zq6 ?_ _ | refine zq8 ?_ | refine zq7 ?_ _)); exact BK483.out)) : gb484 ≠ gb483)); clear HO0_1; clear HO0_2; clear HO0_3; clear HO0_4; clear BK482; clear BK483; clear HK; clear HB; have HO0_1 := n0_; have HO0_2 := n1_; have HO0_3 := n2_; have HO0_4 := n3_; have BK482 := n4_; have BK483 := n5_; have HK := n6_; have HB := n7_; have BK484 := n8_; have GW484 := n9_; have GE484 := n10_; have NB482_484 := n11_; have NB484_482 := n12_; have NB483_484 := n13_; have NB484_483 := n14_; clear n0_ n1_ n2_ n3_ n4_ n5_ n6_ n7_ n8_ n9_ n10_ n11_ n12_ n13_ n14_; clear hb hbox hg; have hnb14 := NB483_482.out; have hnc14 := NB482_483.out; have hnb15 := NB483_484.out; have hnc15 := NB484_483.out; have hcz16_0 : w13.cell? ⟨gb483, 0, none⟩ = some (.bool true) := (zq4 BK483.out 0).trans rfl; have hcz16_1 : w13.cell? ⟨gb483, 1, none⟩ = some (.int .i64 a1_1) := (zq4 BK483.out 1).trans rfl; have hcz16_2 : w13.cell? ⟨gb483, 2, none⟩ = some (.string a1_2) := (zq4 BK483.out 2).trans rfl; have hfz16_0 := zq5 BK483.out 0; have hfz16_1 := zq5 BK483.out 1; have hfz16_2 := zq5 BK483.out 2; have hnb17 := NB482_484.out; have hnc17 := NB484_482.out; have hcz18_0 : w13.cell? ⟨gb482, 0, none⟩ = some (.int .i64 a0_0) := (zq4 BK482.out 0).trans rfl; have hcz18_1 : w13.cell? ⟨gb482, 1, none⟩ = some (.slice Ao7 l0_1.length co7) := (zq4 BK482.out 1).trans rfl; have hcz18_2 : w13.cell? ⟨gb482, 2, none⟩ = some (.slice Ao8 l0_2.length co8) := (zq4 BK482.out 2).trans rfl; have hcz18_3 : w13.cell? ⟨gb482, 3, none⟩ = some (.slice Ao9 l0_3.length co9) := (zq4 BK482.out 3).trans rfl; have hcz18_4 : w13.cell? ⟨gb482, 4, none⟩ = some (.slice Ao10 l0_4.length co10) := (zq4 BK482.out 4).trans rfl; have hfz18_0 := zq5 BK482.out 0; have hfz18_1 := zq5 BK482.out 1; have hfz18_2 := zq5 BK482.out 2; have hfz18_3 := zq5 BK482.out 3; have hfz18_4 := zq5 BK482.out 4; have p6 : 0 ≤ (a1_1 : Int) := of_decide_eq_true (by first | (with_reducible assumption) | assumption); have q6 : (a1_1 : Int) < ((l0_2.length : Int) : Int) := of_decide_eq_true (by first | (with_reducible assumption) | assumption); obtain ⟨go6, co6, eo6, gb6, gl6, cl6, HG6⟩ := Kd.R_form HO0_2.out (by omega); (first | cases eo6 | (injection eo6 with ea_ en_ ec_; (first | subst ea_ | (injection ea_ with ea_; subst ea_)); subst ec_; clear en_)); have GB6 := Az.mk gb6; have GG6 := Az.mk HG6; clear gb6 gl6 HG6; have HMgo6 := Az.mk (show ((P0_1_ go6 ∨ P0_2_ go6 ∨ P0_3_ go6 ∨ P0_4_ go6) ∨ w.heap.size ≤ go6) from (HO0_2.out.1 _ rfl).1); obtain ⟨hx6_0, hf6_0⟩ := Kd.R_celln (⟨#[]⟩ : ByteArray) HO0_2.out (a1_1 : Int) p6 q6; replace p6 := eq_true p6; replace q6 := eq_true q6; obtain ⟨hy19_, hz19_⟩ := Kd.R_celln (⟨#[]⟩ : ByteArray) HO0_2.out (a1_1 : Int) (of_decide_eq_true (by first | (with_reducible assumption) | assumption)) (of_decide_eq_true (by first | (with_reducible assumption) | assumption)); have HP19 := Kd.R_putg HO0_2.out (a1_1 : Int) a1_2) | ((with_reducible refine gate_store (t := 9) (p := 13) rfl ?_); refine store_event (t := 9) (p := 13) (v := ?vo_w20) (w1 := (w13.setCell ⟨go6, (a1_1 : Int).toNat, none⟩ (.string a1_2))) ?hg ?ho ?hn ?hr ?_; (case ho => rfl); (case hg => rfl); (case hn => rfl); (case hr => first | (go_simp; done) | (go_simp; rfl)); intro w20 hw; have hg : w13.grownBy w20 (some go6) := (by rw [hw]; exact HP19.2); have hp_ : Kd.R Kd.string 9 w20 w0.heap.size (fun k_ => ((P0_1_ k_ ∨ P0_2_ k_ ∨ P0_3_ k_ ∨ P0_4_ k_) ∨ w.heap.size ≤ k_) ∧ some k_ ≠ (.slice Ao7 l0_1.length co7 : Value).ownBlock) (.slice (some ⟨go6, 0, none⟩) l0_2.length co8) y485 := (by rw [hw, Ny485.out]; exact HP19.1); clear HP19; have n0_ := Az.mk (Kd.R_after (v := (.slice (some ⟨go6, 0, none⟩) l0_2.length co8)) (v1 := (.slice (some ⟨go6, 0, none⟩) l0_2.length co8)) (ok := (fun k_ => ((P0_1_ k_ ∨ P0_2_ k_ ∨ P0_3_ k_ ∨ P0_4_ k_) ∨ w.heap.size ≤ k_))) (by (with_reducible repeat (first | apply Kd.R_alloc | apply Kd.R_drewN | apply Kd.R_drew)); exact HO0_1.out) hg (.inl rfl)); have n1_ := Az.mk (hp_); have n2_ := Az.mk (Kd.R_over' (v := (.slice (some ⟨go6, 0, none⟩) l0_2.length co8)) (by (with_reducible repeat (first | apply Kd.R_alloc | apply Kd.R_drewN | apply Kd.R_drew)); exact HO0_3.out) (Kd.R_typed HO0_2.out) (by decide) hg); have n3_ := Az.mk (Kd.R_over' (v := (.slice (some ⟨go6, 0, none⟩) l0_2.length co8)) (by (with_reducible repeat (first | apply Kd.R_alloc | apply Kd.R_drewN | apply Kd.R_drew)); exact HO0_4.out) (Kd.R_typed HO0_2.out) (by decide) hg); have n4_ := Az.mk (blk_grown (g := gb482) (o := .cells #[.int .i64 a0_0, .slice Ao7 l0_1.length co7, .slice (some ⟨go6, 0, none⟩) l0_2.length co8, .slice Ao9 l0_3.length co9, .slice Ao10 l0_4.length co10] 28 (0, 0)) (by (with_reducible repeat (first | refine zq6 ?_ _ | refine zq8 ?_ | refine zq7 ?_ _)); exact BK482.out) hg (Kd.R_ne HO0_2.out BK482.out (by decide))); have n5_ := Az.mk (blk_grown (g := gb483) (o := .cells #[.bool true, .int .i64 a1_1, .string a1_2] 54 (0, 0)) (by (with_reducible repeat (first | refine zq6 ?_ _ | refine zq8 ?_ | refine zq7 ?_ _)); exact BK483.out) hg (Kd.R_ne HO0_2.out BK483.out (by decide))); have n6_ := Az.mk (blk_grown (g := gb484) (o := .cells #[.int .i64 0, .slice none 0 0, .slice none 0 0, .slice none 0 0, .slice none 0 0] 28 (0, 0)) (by (with_reducible repeat (first | refine zq6 ?_ _ | refine zq8 ?_ | refine zq7 ?_ _)); exact BK484.out) hg (Kd.R_ne HO0_2.out BK484.out (by decide))); have n7_ := Az.mk ((by rw [hw]; exact zq3 (HB.out) GB6.out : Below w0.heap.size w0 w20)); have n8_ := Az.mk (Kept.of_grown (S := (fun k_ => P0_1_ k_ ∨ P0_2_ k_ ∨ P0_3_ k_ ∨ P0_4_ k_)) hg (by repeat (first | (with_reducible first | exact HK.out | apply Kept.alloc | apply Kept.drewN | apply Kept.drew | refine Kept.setCell ?_ (.inr GW482.out) _ | refine Kept.setCell ?_ (.inr GW483.out) _ | refine Kept.setCell ?_ (.inr GW484.out) _) | exact HK.out)) (fun k_ e_ => (HO0_2.out.1 k_ e_).1)); clear HO0_1; clear HO0_2; clear HO0_3; clear HO0_4; clear BK482; clear BK483; clear BK484; clear HB; clear HK; have HO0_1 := n0_; have HO0_2 := n1_; have HO0_3 := n2_; have HO0_4 := n3_; have BK482 := n4_; have BK483 := n5_; have BK484 := n6_; have HB := n7_; have HK := n8_; clear n0_ n1_ n2_ n3_ n4_ n5_ n6_ n7_ n8_; clear hg hw hp_; have hcz21_0 : w20.cell? ⟨gb482, 0, none⟩ = some (.int .i64 a0_0) := (zq4 BK482.out 0).trans rfl; have hcz21_1 : w20.cell? ⟨gb482, 1, none⟩ = some (.slice Ao7 l0_1.length co7) := (zq4 BK482.out 1).trans rfl; have hcz21_2 : w20.cell? ⟨gb482, 2, none⟩ = some (.slice (some ⟨go6, 0, none⟩) l0_2.length co8) := (zq4 BK482.out 2).trans rfl; have hcz21_3 : w20.cell? ⟨gb482, 3, none⟩ = some (.slice Ao9 l0_3.length co9) := (zq4 BK482.out 3).trans rfl; have hcz21_4 : w20.cell? ⟨gb482, 4, none⟩ = some (.slice Ao10 l0_4.length co10) := (zq4 BK482.out 4).trans rfl; have hfz21_0 := zq5 BK482.out 0; have hfz21_1 := zq5 BK482.out 1; have hfz21_2 := zq5 BK482.out 2; have hfz21_3 := zq5 BK482.out 3; have hfz21_4 := zq5 BK482.out 4; have hcz22_0 : w20.cell? ⟨gb484, 0, none⟩ = some (.int .i64 0) := (zq4 BK484.out 0).trans rfl; have hcz22_1 : w20.cell? ⟨gb484, 1, none⟩ = some (.slice none 0 0) := (zq4 BK484.out 1).trans rfl; have hcz22_2 : w20.cell? ⟨gb484, 2, none⟩ = some (.slice none 0 0) := (zq4 BK484.out 2).trans rfl; have hcz22_3 : w20.cell? ⟨gb484, 3, none⟩ = some (.slice none 0 0) := (zq4 BK484.out 3).trans rfl; have hcz22_4 : w20.cell? ⟨gb484, 4, none⟩ = some (.slice none 0 0) := (zq4 BK484.out 4).trans rfl; have hfz22_0 := zq5 BK484.out 0; have hfz22_1 := zq5 BK484.out 1; have hfz22_2 := zq5 BK484.out 2; have hfz22_3 := zq5 BK484.out 3; have hfz22_4 := zq5 BK484.out 4))
    refine bodyPost_ret (results_cell_row rfl _ _ gb484 28 #[.int .i64 a0_0, .slice Ao7 l0_1.length co7, .slice (some ⟨go6, 0, none⟩) l0_2.length co8, .slice Ao9 l0_3.length co9, .slice Ao10 l0_4.length co10] (0, 0) _ rfl (by (with_reducible repeat (first | refine zq6 ?_ _ | refine zq8 ?_ | refine zq7 ?_ _)); refine blk_put (cs := #[.int .i64 a0_0, .slice Ao7 l0_1.length co7, .slice (some ⟨go6, 0, none⟩) l0_2.length co8, .slice Ao9 l0_3.length co9, .slice none 0 0]) ?_ 4 _ rfl; (with_reducible repeat (first | refine zq6 ?_ _ | refine zq8 ?_ | refine zq7 ?_ _)); refine blk_put (cs := #[.int .i64 a0_0, .slice Ao7 l0_1.length co7, .slice (some ⟨go6, 0, none⟩) l0_2.length co8, .slice none 0 0, .slice none 0 0]) ?_ 3 _ rfl; (with_reducible repeat (first | refine zq6 ?_ _ | refine zq8 ?_ | refine zq7 ?_ _)); refine blk_put (cs := #[.int .i64 a0_0, .slice Ao7 l0_1.length co7, .slice none 0 0, .slice none 0 0, .slice none 0 0]) ?_ 2 _ rfl; (with_reducible repeat (first | refine zq6 ?_ _ | refine zq8 ?_ | refine zq7 ?_ _)); refine blk_put (cs := #[.int .i64 a0_0, .slice none 0 0, .slice none 0 0, .slice none 0 0, .slice none 0 0]) ?_ 1 _ rfl; (with_reducible repeat (first | refine zq6 ?_ _ | refine zq8 ?_ | refine zq7 ?_ _)); refine blk_put (cs := #[.int .i64 0, .slice none 0 0, .slice none 0 0, .slice none 0 0, .slice none 0 0]) ?_ 0 _ rfl; (with_reducible repeat (first | refine zq6 ?_ _ | refine zq8 ?_ | refine zq7 ?_ _)); exact BK484.out) Try.underlying28 rfl (by kernel_rfl)) rfl ?_
    exact ⟨_, _, _, _, by first | rfl | (simp [errW_none, errW_some] <;> rfl) | (simp [*, errW_none, errW_some] <;> rfl), by (with_reducible repeat (first | apply Kd.R_alloc | apply Kd.R_drewN | apply Kd.R_drew)); exact Kd.R_mono (Kd.R_far (p := ⟨gb484, 4, none⟩) (Kd.R_far (p := ⟨gb484, 3, none⟩) (Kd.R_far (p := ⟨gb484, 2, none⟩) (Kd.R_far (p := ⟨gb484, 1, none⟩) (Kd.R_far (p := ⟨gb484, 0, none⟩) (Kd.R_types HO0_1.out BK484.out (by decide)) (fun _ hk => hk.2) (.int .i64 a0_0)) (fun _ hk => hk.2) (.slice Ao7 l0_1.length co7)) (fun _ hk => hk.2) (.slice (some ⟨go6, 0, none⟩) l0_2.length co8)) (fun _ hk => hk.2) (.slice Ao9 l0_3.length co9)) (fun _ hk => hk.2) (.slice Ao10 l0_4.length co10)) (fun _ hk => ⟨hk.1.1, hk.1.2⟩), by (with_reducible repeat (first | apply Kd.R_alloc | apply Kd.R_drewN | apply Kd.R_drew)); exact Kd.R_mono (Kd.R_far (p := ⟨gb484, 4, none⟩) (Kd.R_far (p := ⟨gb484, 3, none⟩) (Kd.R_far (p := ⟨gb484, 2, none⟩) (Kd.R_far (p := ⟨gb484, 1, none⟩) (Kd.R_far (p := ⟨gb484, 0, none⟩) (Kd.R_types HO0_2.out BK484.out (by decide)) (fun _ hk => hk.2) (.int .i64 a0_0)) (fun _ hk => hk.2) (.slice Ao7 l0_1.length co7)) (fun _ hk => hk.2) (.slice (some ⟨go6, 0, none⟩) l0_2.length co8)) (fun _ hk => hk.2) (.slice Ao9 l0_3.length co9)) (fun _ hk => hk.2) (.slice Ao10 l0_4.length co10)) (fun _ hk => ⟨hk.1.1, hk.1.2⟩), by (with_reducible repeat (first | apply Kd.R_alloc | apply Kd.R_drewN | apply Kd.R_drew)); exact Kd.R_mono (Kd.R_far (p := ⟨gb484, 4, none⟩) (Kd.R_far (p := ⟨gb484, 3, none⟩) (Kd.R_far (p := ⟨gb484, 2, none⟩) (Kd.R_far (p := ⟨gb484, 1, none⟩) (Kd.R_far (p := ⟨gb484, 0, none⟩) (Kd.R_types HO0_3.out BK484.out (by decide)) (fun _ hk => hk.2) (.int .i64 a0_0)) (fun _ hk => hk.2) (.slice Ao7 l0_1.length co7)) (fun _ hk => hk.2) (.slice (some ⟨go6, 0, none⟩) l0_2.length co8)) (fun _ hk => hk.2) (.slice Ao9 l0_3.length co9)) (fun _ hk => hk.2) (.slice Ao10 l0_4.length co10)) (fun _ hk => hk.1), by (with_reducible repeat (first | apply Kd.R_alloc | apply Kd.R_drewN | apply Kd.R_drew)); exact Kd.R_mono (Kd.R_far (p := ⟨gb484, 4, none⟩) (Kd.R_far (p := ⟨gb484, 3, none⟩) (Kd.R_far (p := ⟨gb484, 2, none⟩) (Kd.R_far (p := ⟨gb484, 1, none⟩) (Kd.R_far (p := ⟨gb484, 0, none⟩) (Kd.R_types HO0_4.out BK484.out (by decide)) (fun _ hk => hk.2) (.int .i64 a0_0)) (fun _ hk => hk.2) (.slice Ao7 l0_1.length co7)) (fun _ hk => hk.2) (.slice (some ⟨go6, 0, none⟩) l0_2.length co8)) (fun _ hk => hk.2) (.slice Ao9 l0_3.length co9)) (fun _ hk => hk.2) (.slice Ao10 l0_4.length co10)) (fun _ hk => hk.1.1), by repeat (first | (with_reducible first | exact HB.out | apply zq2 | apply zq1 | apply zqd | refine zq3 ?_ GE482.out | refine zq3 ?_ GE483.out | refine zq3 ?_ GE484.out) | exact HB.out), by repeat (first | (with_reducible first | exact HK.out | apply Kept.alloc | apply Kept.drewN | apply Kept.drew | refine Kept.setCell ?_ (.inr GW482.out) _ | refine Kept.setCell ?_ (.inr GW483.out) _ | refine Kept.setCell ?_ (.inr GW484.out) _) | exact HK.out)⟩
   ·rw [if_neg c5] at H
    exact absurd H (by simp)
  ·rw [if_neg c4] at H
   exact absurd H (by simp)
 ·replace c3 := Bool.eq_false_iff.mpr c3
  subst c3
  have H1 : (if 0 ≤ a1_1 then (if a1_1 < (l0_1.length : Int) then (if a1_1 < (l0_3.length : Int) then (some (a0_0, (l0_1.set (a1_1 : Int).toNat a1_2), l0_2, (l0_3.set (a1_1 : Int).toNat false), l0_4)) else (none)) else (none)) else (none)) = some (r1, r2, r3, r4, r5) := by rw [if_neg (show ¬ (false = true) by decide)] at H; exact H
  clear H
  have H := H1
  clear H1
  by_cases c23 : 0 ≤ a1_1
  ·rw [if_pos c23] at H
   have c23b0 : decide (0 ≤ a1_1) = true := decide_eq_true c23
   clear c23
   by_cases c24 : a1_1 < (l0_1.length : Int)
   ·rw [if_pos c24] at H
    have c24b0 : decide (a1_1 < (l0_1.length : Int)) = true := decide_eq_true c24
    clear c24
    obtain ⟨y486, hy486⟩ : ∃ y_ : List ByteArray, y_ = (l0_1.set (a1_1 : Int).toNat a1_2) := ⟨_, rfl⟩
    replace H : (if a1_1 < (l0_3.length : Int) then (some (a0_0, y486, l0_2, (l0_3.set (a1_1 : Int).toNat false), l0_4)) else (none)) = some (r1, r2, r3, r4, r5) := by first | (rw [hy486]; with_reducible exact H) | (have H2_ := (Option.bind_some _ _).symm.trans H; rw [hy486]; with_reducible exact H2_) | (have H2_ := (Option.bind_some _ _).symm.trans H; with_reducible exact H2_) | with_reducible exact H | (rw [hy486]; exact H) | exact H
    have Ny486 := Az.mk hy486
    clear hy486
    by_cases c26 : a1_1 < (l0_3.length : Int)
    ·rw [if_pos c26] at H
     have c26b0 : decide (a1_1 < (l0_3.length : Int)) = true := decide_eq_true c26
     clear c26
     obtain ⟨y487, hy487⟩ : ∃ y_ : List Bool, y_ = (l0_3.set (a1_1 : Int).toNat false) := ⟨_, rfl⟩
     replace H : (some (a0_0, y486, l0_2, y487, l0_4)) = some (r1, r2, r3, r4, r5) := by first | (rw [hy487]; with_reducible exact H) | (have H2_ := (Option.bind_some _ _).symm.trans H; rw [hy487]; with_reducible exact H2_) | (have H2_ := (Option.bind_some _ _).symm.trans H; with_reducible exact H2_) | with_reducible exact H | (rw [hy487]; exact H) | exact H
     have Ny487 := Az.mk hy487
     clear hy487
     simp only [Option.some.injEq, Prod.mk.injEq] at H
     obtain ⟨rfl, rfl, rfl, rfl, rfl⟩ := H
     obtain ⟨Ao28, co28, eo28⟩ := Kd.R_slice HO0_1.out
     subst eo28
     obtain ⟨Ao29, co29, eo29⟩ := Kd.R_slice HO0_2.out
     subst eo29
     obtain ⟨Ao30, co30, eo30⟩ := Kd.R_slice HO0_3.out
     subst eo30
     obtain ⟨Ao31, co31, eo31⟩ := Kd.R_slice HO0_4.out
     subst eo31
     go_enter Try.func101, Try.ntmps101
     go_wp2_with (first | ((with_reducible refine zqg (N := 2) rfl ?_); refine zqb ?hg (N := 2) ?hd (cs := #[.int .i64 a0_0, .slice Ao28 l0_1.length co28, .slice Ao29 l0_2.length co29, .slice Ao30 l0_3.length co30, .slice Ao31 l0_4.length co31]) (t := 28) ?hr ?_; (case hd => rfl); (case hg => rfl); (case hr => first | (go_simp; done) | (go_simp; rfl)); intro gb482 hg w32 hbox hb; have n0_ := Az.mk (Kd.R_below (by (with_reducible repeat (first | apply Kd.R_alloc | apply Kd.R_drewN | apply Kd.R_drew)); exact HO0_1.out) hb); have n1_ := Az.mk (Kd.R_below (by (with_reducible repeat (first | apply Kd.R_alloc | apply Kd.R_drewN | apply Kd.R_drew)); exact HO0_2.out) hb); have n2_ := Az.mk (Kd.R_below (by (with_reducible repeat (first | apply Kd.R_alloc | apply Kd.R_drewN | apply Kd.R_drew)); exact HO0_3.out) hb); have n3_ := Az.mk (Kd.R_below (by (with_reducible repeat (first | apply Kd.R_alloc | apply Kd.R_drewN | apply Kd.R_drew)); exact HO0_4.out) hb); have n4_ := Az.mk (Kept.below (S := (fun k_ => P0_1_ k_ ∨ P0_2_ k_ ∨ P0_3_ k_ ∨ P0_4_ k_)) (by repeat (first | (with_reducible first | exact HK.out | apply Kept.alloc | apply Kept.drewN | apply Kept.drew) | exact HK.out)) hb); have n5_ := Az.mk (below_step (by repeat (first | (with_reducible first | exact HB.out | apply zq2 | apply zq1 | apply zqd) | exact HB.out)) hb); have n6_ := Az.mk (hbox); have n7_ := Az.mk ((by rw [hg]; exact (by first | exact HK.out.1 | exact (show Kept w _ (fun k_ => P0_1_ k_ ∨ P0_2_ k_ ∨ P0_3_ k_ ∨ P0_4_ k_) from by repeat (first | (with_reducible first | exact HK.out | apply Kept.alloc | apply Kept.drewN | apply Kept.drew) | exact HK.out)).1) : w.heap.size ≤ gb482)); have n8_ := Az.mk ((by rw [hg]; exact (below_size (by repeat (first | (with_reducible first | exact HB.out | apply zq2 | apply zq1 | apply zqd) | exact HB.out))) : w0.heap.size ≤ gb482)); clear HO0_1; clear HO0_2; clear HO0_3; clear HO0_4; clear HK; clear HB; have HO0_1 := n0_; have HO0_2 := n1_; have HO0_3 := n2_; have HO0_4 := n3_; have HK := n4_; have HB := n5_; have BK482 := n6_; have GW482 := n7_; have GE482 := n8_; clear n0_ n1_ n2_ n3_ n4_ n5_ n6_ n7_ n8_; clear hb hbox hg) | ((with_reducible refine zqg (N := 3) rfl ?_); refine zqb ?hg (N := 3) ?hd (cs := #[.bool false, .int .i64 a1_1, .string a1_2]) (t := 54) ?hr ?_; (case hd => rfl); (case hg => rfl); (case hr => first | (go_simp; done) | (go_simp; rfl)); intro gb483 hg w33 hbox hb; have n0_ := Az.mk (Kd.R_below (by (with_reducible repeat (first | apply Kd.R_alloc | apply Kd.R_drewN | apply Kd.R_drew)); exact HO0_1.out) hb); have n1_ := Az.mk (Kd.R_below (by (with_reducible repeat (first | apply Kd.R_alloc | apply Kd.R_drewN | apply Kd.R_drew)); exact HO0_2.out) hb); have n2_ := Az.mk (Kd.R_below (by (with_reducible repeat (first | apply Kd.R_alloc | apply Kd.R_drewN | apply Kd.R_drew)); exact HO0_3.out) hb); have n3_ := Az.mk (Kd.R_below (Kd.R_elderB (by (with_reducible repeat (first | apply Kd.R_alloc | apply Kd.R_drewN | apply Kd.R_drew)); exact HO0_4.out) gb483 (Nat.le_of_eq hg.symm)) hb); have n4_ := Az.mk (blk_below (g := gb482) (o := .cells #[.int .i64 a0_0, .slice Ao28 l0_1.length co28, .slice Ao29 l0_2.length co29, .slice Ao30 l0_3.length co30, .slice Ao31 l0_4.length co31] 28 (0, 0)) (by (with_reducible repeat (first | refine zq6 ?_ _ | refine zq8 ?_ | refine zq7 ?_ _)); exact BK482.out) hb); have n5_ := Az.mk (Kept.below (S := (fun k_ => P0_1_ k_ ∨ P0_2_ k_ ∨ P0_3_ k_ ∨ P0_4_ k_)) (by repeat (first | (with_reducible first | exact HK.out | apply Kept.alloc | apply Kept.drewN | apply Kept.drew | refine Kept.setCell ?_ (.inr GW482.out) _) | exact HK.out)) hb); have n6_ := Az.mk (below_step (by repeat (first | (with_reducible first | exact HB.out | apply zq2 | apply zq1 | apply zqd | refine zq3 ?_ GE482.out) | exact HB.out)) hb); have n7_ := Az.mk (hbox); have n8_ := Az.mk ((by rw [hg]; exact (by first | exact HK.out.1 | exact (show Kept w _ (fun k_ => P0_1_ k_ ∨ P0_2_ k_ ∨ P0_3_ k_ ∨ P0_4_ k_) from by repeat (first | (with_reducible first | exact HK.out | apply Kept.alloc | apply Kept.drewN | apply Kept.drew | refine Kept.setCell ?_ (.inr GW482.out) _) | exact HK.out)).1) : w.heap.size ≤ gb483)); have n9_ := Az.mk ((by rw [hg]; exact (below_size (by repeat (first | (with_reducible first | exact HB.out | apply zq2 | apply zq1 | apply zqd | refine zq3 ?_ GE482.out) | exact HB.out))) : w0.heap.size ≤ gb483)); have n10_ := Az.mk ((by rw [hg]; exact Nat.ne_of_lt (blk_lt (g := gb482) (o := .cells #[.int .i64 a0_0, .slice Ao28 l0_1.length co28, .slice Ao29 l0_2.length co29, .slice Ao30 l0_3.length co30, .slice Ao31 l0_4.length co31] 28 (0, 0)) (by (with_reducible repeat (first | refine zq6 ?_ _ | refine zq8 ?_ | refine zq7 ?_ _)); exact BK482.out)) : gb482 ≠ gb483)); have n11_ := Az.mk ((by rw [hg]; exact Nat.ne_of_gt (blk_lt (g := gb482) (o := .cells #[.int .i64 a0_0, .slice Ao28 l0_1.length co28, .slice Ao29 l0_2.length co29, .slice Ao30 l0_3.length co30, .slice Ao31 l0_4.length co31] 28 (0, 0)) (by (with_reducible repeat (first | refine zq6 ?_ _ | refine zq8 ?_ | refine zq7 ?_ _)); exact BK482.out)) : gb483 ≠ gb482)); clear HO0_1; clear HO0_2; clear HO0_3; clear HO0_4; clear BK482; clear HK; clear HB; have HO0_1 := n0_; have HO0_2 := n1_; have HO0_3 := n2_; have HO0_4 := n3_; have BK482 := n4_; have HK := n5_; have HB := n6_; have BK483 := n7_; have GW483 := n8_; have GE483 := n9_; have NB482_483 := n10_; have NB483_482 := n11_; clear n0_ n1_ n2_ n3_ n4_ n5_ n6_ n7_ n8_ n9_ n10_ n11_; clear hb hbox hg) | ((with_reducible refine zqg (N := 4) rfl ?_); refine zqb ?hg (N := 4) ?hd (cs := #[.int .i64 0, .slice none 0 0, .slice none 0 0, .slice none 0 0, .slice none 0 0]) (t := 28) ?hr ?_; (case hd => rfl); (case hg => rfl); (case hr => first | (go_simp; done) | (go_simp; rfl)); intro gb484 hg w34 hbox hb; have n0_ := Az.mk (Kd.R_below (by (with_reducible repeat (first | apply Kd.R_alloc | apply Kd.R_drewN | apply Kd.R_drew)); exact HO0_1.out) hb); have n1_ := Az.mk (Kd.R_below (by (with_reducible repeat (first | apply Kd.R_alloc | apply Kd.R_drewN | apply Kd.R_drew)); exact HO0_2.out) hb); have n2_ := Az.mk (Kd.R_below (by (with_reducible repeat (first | apply Kd.R_alloc | apply Kd.R_drewN | apply Kd.R_drew)); exact HO0_3.out) hb); have n3_ := Az.mk (Kd.R_below (by (with_reducible repeat (first | apply Kd.R_alloc | apply Kd.R_drewN | apply Kd.R_drew)); exact HO0_4.out) hb); have n4_ := Az.mk (blk_below (g := gb482) (o := .cells #[.int .i64 a0_0, .slice Ao28 l0_1.length co28, .slice Ao29 l0_2.length co29, .slice Ao30 l0_3.length co30, .slice Ao31 l0_4.length co31] 28 (0, 0)) (by (with_reducible repeat (first | refine zq6 ?_ _ | refine zq8 ?_ | refine zq7 ?_ _)); exact BK482.out) hb); have n5_ := Az.mk (blk_below (g := gb483) (o := .cells #[.bool false, .int .i64 a1_1, .string a1_2] 54 (0, 0)) (by (with_reducible repeat (first | refine zq6 ?_ _ | refine zq8 ?_ | refine zq7 ?_ _)); exact BK483.out) hb); have n6_ := Az.mk (Kept.below (S := (fun k_ => P0_1_ k_ ∨ P0_2_ k_ ∨ P0_3_ k_ ∨ P0_4_ k_)) (by repeat (first | (with_reducible first | exact HK.out | apply Kept.alloc | apply Kept.drewN | apply Kept.drew | refine Kept.setCell ?_ (.inr GW482.out) _ | refine Kept.setCell ?_ (.inr GW483.out) _) | exact HK.out)) hb); have n7_ := Az.mk (below_step (by repeat (first | (with_reducible first | exact HB.out | apply zq2 | apply zq1 | apply zqd | refine zq3 ?_ GE482.out | refine zq3 ?_ GE483.out) | exact HB.out)) hb); have n8_ := Az.mk (hbox); have n9_ := Az.mk ((by rw [hg]; exact (by first | exact HK.out.1 | exact (show Kept w _ (fun k_ => P0_1_ k_ ∨ P0_2_ k_ ∨ P0_3_ k_ ∨ P0_4_ k_) from by repeat (first | (with_reducible first | exact HK.out | apply Kept.alloc | apply Kept.drewN | apply Kept.drew | refine Kept.setCell ?_ (.inr GW482.out) _ | refine Kept.setCell ?_ (.inr GW483.out) _) | exact HK.out)).1) : w.heap.size ≤ gb484)); have n10_ := Az.mk ((by rw [hg]; exact (below_size (by repeat (first | (with_reducible first | exact HB.out | apply zq2 | apply zq1 | apply zqd | refine zq3 ?_ GE482.out | refine zq3 ?_ GE483.out) | exact HB.out))) : w0.heap.size ≤ gb484)); have n11_ := Az.mk ((by rw [hg]; exact Nat.ne_of_lt (blk_lt (g := gb482) (o := .cells #[.int .i64 a0_0, .slice Ao28 l0_1.length co28, .slice Ao29 l0_2.length co29, .slice Ao30 l0_3.length co30, .slice Ao31 l0_4.length co31] 28 (0, 0)) (by (with_reducible repeat (first | refine zq6 ?_ _ | refine zq8 ?_ | refine zq7 ?_ _)); exact BK482.out)) : gb482 ≠ gb484)); have n12_ := Az.mk ((by rw [hg]; exact Nat.ne_of_gt (blk_lt (g := gb482) (o := .cells #[.int .i64 a0_0, .slice Ao28 l0_1.length co28, .slice Ao29 l0_2.length co29, .slice Ao30 l0_3.length co30, .slice Ao31 l0_4.length co31] 28 (0, 0)) (by (with_reducible repeat (first | refine zq6 ?_ _ | refine zq8 ?_ | refine zq7 ?_ _)); exact BK482.out)) : gb484 ≠ gb482)); have n13_ := Az.mk ((by rw [hg]; exact Nat.ne_of_lt (blk_lt (g := gb483) (o := .cells #[.bool false, .int .i64 a1_1, .string a1_2] 54 (0, 0)) (by (with_reducible repeat (first | refine zq6 ?_ _ | refine zq8 ?_ | refine zq7 ?_ _)); exact BK483.out)) : gb483 ≠ gb484)); have n14_ := Az.mk ((by rw [hg]; exact Nat.ne_of_gt (blk_lt (g := gb483) (o := .cells #[.bool false, .int .i64 a1_1, .string a1_2] 54 (0, 0)) (by (with_reducible repeat (first | refine zq6 ?_ _ | refine zq8 ?_ | refine zq7 ?_ _)); exact BK483.out)) : gb484 ≠ gb483)); clear HO0_1; clear HO0_2; clear HO0_3; clear HO0_4; clear BK482; clear BK483; clear HK; clear HB; have HO0_1 := n0_; have HO0_2 := n1_; have HO0_3 := n2_; have HO0_4 := n3_; have BK482 := n4_; have BK483 := n5_; have HK := n6_; have HB := n7_; have BK484 := n8_; have GW484 := n9_; have GE484 := n10_; have NB482_484 := n11_; have NB484_482 := n12_; have NB483_484 := n13_; have NB484_483 := n14_; clear n0_ n1_ n2_ n3_ n4_ n5_ n6_ n7_ n8_ n9_ n10_ n11_ n12_ n13_ n14_; clear hb hbox hg; have hnb35 := NB483_482.out; have hnc35 := NB482_483.out; have hnb36 := NB483_484.out; have hnc36 := NB484_483.out; have hcz37_0 : w34.cell? ⟨gb483, 0, none⟩ = some (.bool false) := (zq4 BK483.out 0).trans rfl; have hcz37_1 : w34.cell? ⟨gb483, 1, none⟩ = some (.int .i64 a1_1) := (zq4 BK483.out 1).trans rfl; have hcz37_2 : w34.cell? ⟨gb483, 2, none⟩ = some (.string a1_2) := (zq4 BK483.out 2).trans rfl; have hfz37_0 := zq5 BK483.out 0; have hfz37_1 := zq5 BK483.out 1; have hfz37_2 := zq5 BK483.out 2; have hnb38 := NB482_484.out; have hnc38 := NB484_482.out; have hcz39_0 : w34.cell? ⟨gb482, 0, none⟩ = some (.int .i64 a0_0) := (zq4 BK482.out 0).trans rfl; have hcz39_1 : w34.cell? ⟨gb482, 1, none⟩ = some (.slice Ao28 l0_1.length co28) := (zq4 BK482.out 1).trans rfl; have hcz39_2 : w34.cell? ⟨gb482, 2, none⟩ = some (.slice Ao29 l0_2.length co29) := (zq4 BK482.out 2).trans rfl; have hcz39_3 : w34.cell? ⟨gb482, 3, none⟩ = some (.slice Ao30 l0_3.length co30) := (zq4 BK482.out 3).trans rfl; have hcz39_4 : w34.cell? ⟨gb482, 4, none⟩ = some (.slice Ao31 l0_4.length co31) := (zq4 BK482.out 4).trans rfl; have hfz39_0 := zq5 BK482.out 0; have hfz39_1 := zq5 BK482.out 1; have hfz39_2 := zq5 BK482.out 2; have hfz39_3 := zq5 BK482.out 3; have hfz39_4 := zq5 BK482.out 4; have p25 : 0 ≤ (a1_1 : Int) := of_decide_eq_true (by first | (with_reducible assumption) | assumption); have q25 : (a1_1 : Int) < ((l0_1.length : Int) : Int) := of_decide_eq_true (by first | (with_reducible assumption) | assumption); obtain ⟨go25, co25, eo25, gb25, gl25, cl25, HG25⟩ := Kd.R_form HO0_1.out (by omega); (first | cases eo25 | (injection eo25 with ea_ en_ ec_; (first | subst ea_ | (injection ea_ with ea_; subst ea_)); subst ec_; clear en_)); have GB25 := Az.mk gb25; have GG25 := Az.mk HG25; clear gb25 gl25 HG25; have HMgo25 := Az.mk (show ((P0_1_ go25 ∨ P0_2_ go25 ∨ P0_3_ go25 ∨ P0_4_ go25) ∨ w.heap.size ≤ go25) from (HO0_1.out.1 _ rfl).1); obtain ⟨hx25_0, hf25_0⟩ := Kd.R_celln (⟨#[]⟩ : ByteArray) HO0_1.out (a1_1 : Int) p25 q25; replace p25 := eq_true p25; replace q25 := eq_true q25; obtain ⟨hy40_, hz40_⟩ := Kd.R_celln (⟨#[]⟩ : ByteArray) HO0_1.out (a1_1 : Int) (of_decide_eq_true (by first | (with_reducible assumption) | assumption)) (of_decide_eq_true (by first | (with_reducible assumption) | assumption)); have HP40 := Kd.R_putg HO0_1.out (a1_1 : Int) a1_2) | ((with_reducible refine gate_store (t := 9) (p := 21) rfl ?_); refine store_event (t := 9) (p := 21) (v := ?vo_w41) (w1 := (w34.setCell ⟨go25, (a1_1 : Int).toNat, none⟩ (.string a1_2))) ?hg ?ho ?hn ?hr ?_; (case ho => rfl); (case hg => rfl); (case hn => rfl); (case hr => first | (go_simp; done) | (go_simp; rfl)); intro w41 hw; have hg : w34.grownBy w41 (some go25) := (by rw [hw]; exact HP40.2); have hp_ : Kd.R Kd.string 9 w41 w0.heap.size (fun k_ => ((P0_1_ k_ ∨ P0_2_ k_ ∨ P0_3_ k_ ∨ P0_4_ k_) ∨ w.heap.size ≤ k_) ∧ some k_ ≠ (.slice Ao29 l0_2.length co29 : Value).ownBlock) (.slice (some ⟨go25, 0, none⟩) l0_1.length co28) y486 := (by rw [hw, Ny486.out]; exact HP40.1); clear HP40; have n0_ := Az.mk (hp_); have n1_ := Az.mk (Kd.R_after (v := (.slice (some ⟨go25, 0, none⟩) l0_1.length co28)) (v1 := (.slice (some ⟨go25, 0, none⟩) l0_1.length co28)) (ok := (fun k_ => ((P0_1_ k_ ∨ P0_2_ k_ ∨ P0_3_ k_ ∨ P0_4_ k_) ∨ w.heap.size ≤ k_))) (by (with_reducible repeat (first | apply Kd.R_alloc | apply Kd.R_drewN | apply Kd.R_drew)); exact HO0_2.out) hg (.inl rfl)); have n2_ := Az.mk (Kd.R_over' (v := (.slice (some ⟨go25, 0, none⟩) l0_1.length co28)) (by (with_reducible repeat (first | apply Kd.R_alloc | apply Kd.R_drewN | apply Kd.R_drew)); exact HO0_3.out) (Kd.R_typed HO0_1.out) (by decide) hg); have n3_ := Az.mk (Kd.R_over' (v := (.slice (some ⟨go25, 0, none⟩) l0_1.length co28)) (by (with_reducible repeat (first | apply Kd.R_alloc | apply Kd.R_drewN | apply Kd.R_drew)); exact HO0_4.out) (Kd.R_typed HO0_1.out) (by decide) hg); have n4_ := Az.mk (blk_grown (g := gb482) (o := .cells #[.int .i64 a0_0, .slice (some ⟨go25, 0, none⟩) l0_1.length co28, .slice Ao29 l0_2.length co29, .slice Ao30 l0_3.length co30, .slice Ao31 l0_4.length co31] 28 (0, 0)) (by (with_reducible repeat (first | refine zq6 ?_ _ | refine zq8 ?_ | refine zq7 ?_ _)); exact BK482.out) hg (Kd.R_ne HO0_1.out BK482.out (by decide))); have n5_ := Az.mk (blk_grown (g := gb483) (o := .cells #[.bool false, .int .i64 a1_1, .string a1_2] 54 (0, 0)) (by (with_reducible repeat (first | refine zq6 ?_ _ | refine zq8 ?_ | refine zq7 ?_ _)); exact BK483.out) hg (Kd.R_ne HO0_1.out BK483.out (by decide))); have n6_ := Az.mk (blk_grown (g := gb484) (o := .cells #[.int .i64 0, .slice none 0 0, .slice none 0 0, .slice none 0 0, .slice none 0 0] 28 (0, 0)) (by (with_reducible repeat (first | refine zq6 ?_ _ | refine zq8 ?_ | refine zq7 ?_ _)); exact BK484.out) hg (Kd.R_ne HO0_1.out BK484.out (by decide))); have n7_ := Az.mk ((by rw [hw]; exact zq3 (HB.out) GB25.out : Below w0.heap.size w0 w41)); have n8_ := Az.mk (Kept.of_grown (S := (fun k_ => P0_1_ k_ ∨ P0_2_ k_ ∨ P0_3_ k_ ∨ P0_4_ k_)) hg (by repeat (first | (with_reducible first | exact HK.out | apply Kept.alloc | apply Kept.drewN | apply Kept.drew | refine Kept.setCell ?_ (.inr GW482.out) _ | refine Kept.setCell ?_ (.inr GW483.out) _ | refine Kept.setCell ?_ (.inr GW484.out) _) | exact HK.out)) (fun k_ e_ => (HO0_1.out.1 k_ e_).1)); clear HO0_1; clear HO0_2; clear HO0_3; clear HO0_4; clear BK482; clear BK483; clear BK484; clear HB; clear HK; have HO0_1 := n0_; have HO0_2 := n1_; have HO0_3 := n2_; have HO0_4 := n3_; have BK482 := n4_; have BK483 := n5_; have BK484 := n6_; have HB := n7_; have HK := n8_; clear n0_ n1_ n2_ n3_ n4_ n5_ n6_ n7_ n8_; clear hg hw hp_; have hcz42_0 : w41.cell? ⟨gb482, 0, none⟩ = some (.int .i64 a0_0) := (zq4 BK482.out 0).trans rfl; have hcz42_1 : w41.cell? ⟨gb482, 1, none⟩ = some (.slice (some ⟨go25, 0, none⟩) l0_1.length co28) := (zq4 BK482.out 1).trans rfl; have hcz42_2 : w41.cell? ⟨gb482, 2, none⟩ = some (.slice Ao29 l0_2.length co29) := (zq4 BK482.out 2).trans rfl; have hcz42_3 : w41.cell? ⟨gb482, 3, none⟩ = some (.slice Ao30 l0_3.length co30) := (zq4 BK482.out 3).trans rfl; have hcz42_4 : w41.cell? ⟨gb482, 4, none⟩ = some (.slice Ao31 l0_4.length co31) := (zq4 BK482.out 4).trans rfl; have hfz42_0 := zq5 BK482.out 0; have hfz42_1 := zq5 BK482.out 1; have hfz42_2 := zq5 BK482.out 2; have hfz42_3 := zq5 BK482.out 3; have hfz42_4 := zq5 BK482.out 4; have hcz43_0 : w41.cell? ⟨gb483, 0, none⟩ = some (.bool false) := (zq4 BK483.out 0).trans rfl; have hcz43_1 : w41.cell? ⟨gb483, 1, none⟩ = some (.int .i64 a1_1) := (zq4 BK483.out 1).trans rfl; have hcz43_2 : w41.cell? ⟨gb483, 2, none⟩ = some (.string a1_2) := (zq4 BK483.out 2).trans rfl; have hfz43_0 := zq5 BK483.out 0; have hfz43_1 := zq5 BK483.out 1; have hfz43_2 := zq5 BK483.out 2; have p27 : 0 ≤ (a1_1 : Int) := of_decide_eq_true (by first | (with_reducible assumption) | assumption); have q27 : (a1_1 : Int) < ((l0_3.length : Int) : Int) := of_decide_eq_true (by first | (with_reducible assumption) | assumption); obtain ⟨go27, co27, eo27, gb27, gl27, cl27, HG27⟩ := Kd.R_form HO0_3.out (by omega); (first | cases eo27 | (injection eo27 with ea_ en_ ec_; (first | subst ea_ | (injection ea_ with ea_; subst ea_)); subst ec_; clear en_)); have GB27 := Az.mk gb27; have GG27 := Az.mk HG27; clear gb27 gl27 HG27; have HMgo27 := Az.mk (show ((P0_1_ go27 ∨ P0_2_ go27 ∨ P0_3_ go27 ∨ P0_4_ go27) ∨ w.heap.size ≤ go27) from (HO0_3.out.1 _ rfl)); obtain ⟨hx27_0, hf27_0⟩ := Kd.R_celln false HO0_3.out (a1_1 : Int) p27 q27; replace p27 := eq_true p27; replace q27 := eq_true q27; obtain ⟨hy44_, hz44_⟩ := Kd.R_celln false HO0_3.out (a1_1 : Int) (of_decide_eq_true (by first | (with_reducible assumption) | assumption)) (of_decide_eq_true (by first | (with_reducible assumption) | assumption)); have HP44 := Kd.R_putg HO0_3.out (a1_1 : Int) false) | ((with_reducible refine gate_store (t := 4) (p := 26) rfl ?_); refine store_event (t := 4) (p := 26) (v := ?vo_w45) (w1 := (w41.setCell ⟨go27, (a1_1 : Int).toNat, none⟩ (.bool false))) ?hg ?ho ?hn ?hr ?_; (case ho => rfl); (case hg => rfl); (case hn => rfl); (case hr => first | (go_simp; done) | (go_simp; rfl)); intro w45 hw; have hg : w41.grownBy w45 (some go27) := (by rw [hw]; exact HP44.2); have hp_ : Kd.R Kd.bool 4 w45 w0.heap.size (fun k_ => ((P0_1_ k_ ∨ P0_2_ k_ ∨ P0_3_ k_ ∨ P0_4_ k_) ∨ w.heap.size ≤ k_)) (.slice (some ⟨go27, 0, none⟩) l0_3.length co30) y487 := (by rw [hw, Ny487.out]; exact HP44.1); clear HP44; have n0_ := Az.mk (Kd.R_over' (v := (.slice (some ⟨go27, 0, none⟩) l0_3.length co30)) (by (with_reducible repeat (first | apply Kd.R_alloc | apply Kd.R_drewN | apply Kd.R_drew)); exact HO0_1.out) (Kd.R_typed HO0_3.out) (by decide) hg); have n1_ := Az.mk (Kd.R_over' (v := (.slice (some ⟨go27, 0, none⟩) l0_3.length co30)) (by (with_reducible repeat (first | apply Kd.R_alloc | apply Kd.R_drewN | apply Kd.R_drew)); exact HO0_2.out) (Kd.R_typed HO0_3.out) (by decide) hg); have n2_ := Az.mk (hp_); have n3_ := Az.mk (Kd.R_over' (v := (.slice (some ⟨go27, 0, none⟩) l0_3.length co30)) (by (with_reducible repeat (first | apply Kd.R_alloc | apply Kd.R_drewN | apply Kd.R_drew)); exact HO0_4.out) (Kd.R_typed HO0_3.out) (by decide) hg); have n4_ := Az.mk (blk_grown (g := gb482) (o := .cells #[.int .i64 a0_0, .slice (some ⟨go25, 0, none⟩) l0_1.length co28, .slice Ao29 l0_2.length co29, .slice (some ⟨go27, 0, none⟩) l0_3.length co30, .slice Ao31 l0_4.length co31] 28 (0, 0)) (by (with_reducible repeat (first | refine zq6 ?_ _ | refine zq8 ?_ | refine zq7 ?_ _)); exact BK482.out) hg (Kd.R_ne HO0_3.out BK482.out (by decide))); have n5_ := Az.mk (blk_grown (g := gb483) (o := .cells #[.bool false, .int .i64 a1_1, .string a1_2] 54 (0, 0)) (by (with_reducible repeat (first | refine zq6 ?_ _ | refine zq8 ?_ | refine zq7 ?_ _)); exact BK483.out) hg (Kd.R_ne HO0_3.out BK483.out (by decide))); have n6_ := Az.mk (blk_grown (g := gb484) (o := .cells #[.int .i64 0, .slice none 0 0, .slice none 0 0, .slice none 0 0, .slice none 0 0] 28 (0, 0)) (by (with_reducible repeat (first | refine zq6 ?_ _ | refine zq8 ?_ | refine zq7 ?_ _)); exact BK484.out) hg (Kd.R_ne HO0_3.out BK484.out (by decide))); have n7_ := Az.mk ((by rw [hw]; exact zq3 (HB.out) GB27.out : Below w0.heap.size w0 w45)); have n8_ := Az.mk (Kept.of_grown (S := (fun k_ => P0_1_ k_ ∨ P0_2_ k_ ∨ P0_3_ k_ ∨ P0_4_ k_)) hg (by repeat (first | (with_reducible first | exact HK.out | apply Kept.alloc | apply Kept.drewN | apply Kept.drew | refine Kept.setCell ?_ (.inr GW482.out) _ | refine Kept.setCell ?_ (.inr GW483.out) _ | refine Kept.setCell ?_ (.inr GW484.out) _) | exact HK.out)) (fun k_ e_ => (HO0_3.out.1 k_ e_))); clear HO0_1; clear HO0_2; clear HO0_3; clear HO0_4; clear BK482; clear BK483; clear BK484; clear HB; clear HK; have HO0_1 := n0_; have HO0_2 := n1_; have HO0_3 := n2_; have HO0_4 := n3_; have BK482 := n4_; have BK483 := n5_; have BK484 := n6_; have HB := n7_; have HK := n8_; clear n0_ n1_ n2_ n3_ n4_ n5_ n6_ n7_ n8_; clear hg hw hp_; have hcz46_0 : w45.cell? ⟨gb482, 0, none⟩ = some (.int .i64 a0_0) := (zq4 BK482.out 0).trans rfl; have hcz46_1 : w45.cell? ⟨gb482, 1, none⟩ = some (.slice (some ⟨go25, 0, none⟩) l0_1.length co28) := (zq4 BK482.out 1).trans rfl; have hcz46_2 : w45.cell? ⟨gb482, 2, none⟩ = some (.slice Ao29 l0_2.length co29) := (zq4 BK482.out 2).trans rfl; have hcz46_3 : w45.cell? ⟨gb482, 3, none⟩ = some (.slice (some ⟨go27, 0, none⟩) l0_3.length co30) := (zq4 BK482.out 3).trans rfl; have hcz46_4 : w45.cell? ⟨gb482, 4, none⟩ = some (.slice Ao31 l0_4.length co31) := (zq4 BK482.out 4).trans rfl; have hfz46_0 := zq5 BK482.out 0; have hfz46_1 := zq5 BK482.out 1; have hfz46_2 := zq5 BK482.out 2; have hfz46_3 := zq5 BK482.out 3; have hfz46_4 := zq5 BK482.out 4; have hcz47_0 : w45.cell? ⟨gb484, 0, none⟩ = some (.int .i64 0) := (zq4 BK484.out 0).trans rfl; have hcz47_1 : w45.cell? ⟨gb484, 1, none⟩ = some (.slice none 0 0) := (zq4 BK484.out 1).trans rfl; have hcz47_2 : w45.cell? ⟨gb484, 2, none⟩ = some (.slice none 0 0) := (zq4 BK484.out 2).trans rfl; have hcz47_3 : w45.cell? ⟨gb484, 3, none⟩ = some (.slice none 0 0) := (zq4 BK484.out 3).trans rfl; have hcz47_4 : w45.cell? ⟨gb484, 4, none⟩ = some (.slice none 0 0) := (zq4 BK484.out 4).trans rfl; have hfz47_0 := zq5 BK484.out 0; have hfz47_1 := zq5 BK484.out 1; have hfz47_2 := zq5 BK484.out 2; have hfz47_3 := zq5 BK484.out 3; have hfz47_4 := zq5 BK484.out 4))
     refine bodyPost_ret (results_cell_row rfl _ _ gb484 28 #[.int .i64 a0_0, .slice (some ⟨go25, 0, none⟩) l0_1.length co28, .slice Ao29 l0_2.length co29, .slice (some ⟨go27, 0, none⟩) l0_3.length co30, .slice Ao31 l0_4.length co31] (0, 0) _ rfl (by (with_reducible repeat (first | refine zq6 ?_ _ | refine zq8 ?_ | refine zq7 ?_ _)); refine blk_put (cs := #[.int .i64 a0_0, .slice (some ⟨go25, 0, none⟩) l0_1.length co28, .slice Ao29 l0_2.length co29, .slice (some ⟨go27, 0, none⟩) l0_3.length co30, .slice none 0 0]) ?_ 4 _ rfl; (with_reducible repeat (first | refine zq6 ?_ _ | refine zq8 ?_ | refine zq7 ?_ _)); refine blk_put (cs := #[.int .i64 a0_0, .slice (some ⟨go25, 0, none⟩) l0_1.length co28, .slice Ao29 l0_2.length co29, .slice none 0 0, .slice none 0 0]) ?_ 3 _ rfl; (with_reducible repeat (first | refine zq6 ?_ _ | refine zq8 ?_ | refine zq7 ?_ _)); refine blk_put (cs := #[.int .i64 a0_0, .slice (some ⟨go25, 0, none⟩) l0_1.length co28, .slice none 0 0, .slice none 0 0, .slice none 0 0]) ?_ 2 _ rfl; (with_reducible repeat (first | refine zq6 ?_ _ | refine zq8 ?_ | refine zq7 ?_ _)); refine blk_put (cs := #[.int .i64 a0_0, .slice none 0 0, .slice none 0 0, .slice none 0 0, .slice none 0 0]) ?_ 1 _ rfl; (with_reducible repeat (first | refine zq6 ?_ _ | refine zq8 ?_ | refine zq7 ?_ _)); refine blk_put (cs := #[.int .i64 0, .slice none 0 0, .slice none 0 0, .slice none 0 0, .slice none 0 0]) ?_ 0 _ rfl; (with_reducible repeat (first | refine zq6 ?_ _ | refine zq8 ?_ | refine zq7 ?_ _)); exact BK484.out) Try.underlying28 rfl (by kernel_rfl)) rfl ?_
     exact ⟨_, _, _, _, by first | rfl | (simp [errW_none, errW_some] <;> rfl) | (simp [*, errW_none, errW_some] <;> rfl), by (with_reducible repeat (first | apply Kd.R_alloc | apply Kd.R_drewN | apply Kd.R_drew)); exact Kd.R_mono (Kd.R_far (p := ⟨gb484, 4, none⟩) (Kd.R_far (p := ⟨gb484, 3, none⟩) (Kd.R_far (p := ⟨gb484, 2, none⟩) (Kd.R_far (p := ⟨gb484, 1, none⟩) (Kd.R_far (p := ⟨gb484, 0, none⟩) (Kd.R_types HO0_1.out BK484.out (by decide)) (fun _ hk => hk.2) (.int .i64 a0_0)) (fun _ hk => hk.2) (.slice (some ⟨go25, 0, none⟩) l0_1.length co28)) (fun _ hk => hk.2) (.slice Ao29 l0_2.length co29)) (fun _ hk => hk.2) (.slice (some ⟨go27, 0, none⟩) l0_3.length co30)) (fun _ hk => hk.2) (.slice Ao31 l0_4.length co31)) (fun _ hk => ⟨hk.1.1, hk.1.2⟩), by (with_reducible repeat (first | apply Kd.R_alloc | apply Kd.R_drewN | apply Kd.R_drew)); exact Kd.R_mono (Kd.R_far (p := ⟨gb484, 4, none⟩) (Kd.R_far (p := ⟨gb484, 3, none⟩) (Kd.R_far (p := ⟨gb484, 2, none⟩) (Kd.R_far (p := ⟨gb484, 1, none⟩) (Kd.R_far (p := ⟨gb484, 0, none⟩) (Kd.R_types HO0_2.out BK484.out (by decide)) (fun _ hk => hk.2) (.int .i64 a0_0)) (fun _ hk => hk.2) (.slice (some ⟨go25, 0, none⟩) l0_1.length co28)) (fun _ hk => hk.2) (.slice Ao29 l0_2.length co29)) (fun _ hk => hk.2) (.slice (some ⟨go27, 0, none⟩) l0_3.length co30)) (fun _ hk => hk.2) (.slice Ao31 l0_4.length co31)) (fun _ hk => ⟨hk.1.1, hk.1.2⟩), by (with_reducible repeat (first | apply Kd.R_alloc | apply Kd.R_drewN | apply Kd.R_drew)); exact Kd.R_mono (Kd.R_far (p := ⟨gb484, 4, none⟩) (Kd.R_far (p := ⟨gb484, 3, none⟩) (Kd.R_far (p := ⟨gb484, 2, none⟩) (Kd.R_far (p := ⟨gb484, 1, none⟩) (Kd.R_far (p := ⟨gb484, 0, none⟩) (Kd.R_types HO0_3.out BK484.out (by decide)) (fun _ hk => hk.2) (.int .i64 a0_0)) (fun _ hk => hk.2) (.slice (some ⟨go25, 0, none⟩) l0_1.length co28)) (fun _ hk => hk.2) (.slice Ao29 l0_2.length co29)) (fun _ hk => hk.2) (.slice (some ⟨go27, 0, none⟩) l0_3.length co30)) (fun _ hk => hk.2) (.slice Ao31 l0_4.length co31)) (fun _ hk => hk.1), by (with_reducible repeat (first | apply Kd.R_alloc | apply Kd.R_drewN | apply Kd.R_drew)); exact Kd.R_mono (Kd.R_far (p := ⟨gb484, 4, none⟩) (Kd.R_far (p := ⟨gb484, 3, none⟩) (Kd.R_far (p := ⟨gb484, 2, none⟩) (Kd.R_far (p := ⟨gb484, 1, none⟩) (Kd.R_far (p := ⟨gb484, 0, none⟩) (Kd.R_types HO0_4.out BK484.out (by decide)) (fun _ hk => hk.2) (.int .i64 a0_0)) (fun _ hk => hk.2) (.slice (some ⟨go25, 0, none⟩) l0_1.length co28)) (fun _ hk => hk.2) (.slice Ao29 l0_2.length co29)) (fun _ hk => hk.2) (.slice (some ⟨go27, 0, none⟩) l0_3.length co30)) (fun _ hk => hk.2) (.slice Ao31 l0_4.length co31)) (fun _ hk => hk.1.1), by repeat (first | (with_reducible first | exact HB.out | apply zq2 | apply zq1 | apply zqd | refine zq3 ?_ GE482.out | refine zq3 ?_ GE483.out | refine zq3 ?_ GE484.out) | exact HB.out), by repeat (first | (with_reducible first | exact HK.out | apply Kept.alloc | apply Kept.drewN | apply Kept.drew | refine Kept.setCell ?_ (.inr GW482.out) _ | refine Kept.setCell ?_ (.inr GW483.out) _ | refine Kept.setCell ?_ (.inr GW484.out) _) | exact HK.out)⟩
    ·rw [if_neg c26] at H
     exact absurd H (by simp)
   ·rw [if_neg c24] at H
    exact absurd H (by simp)
  ·rw [if_neg c23] at H
   exact absurd H (by simp)
end Go.Proofs.Ytkgpnloghmbmlaa.Print
namespace Go.Proofs.Ytkgpnloghmbmlaa.Print
open Go.RowKit Go.Proofs.YtkgpnloghmbmlaaW.PrintWords Go.Proofs.YtkgpnloghmbmlaaW.PrintLast Go.Proofs.YtkgpnloghmbmlaaW.PrintMore
attribute [local go_sem] max2_int min2_int max_two min_two max_three min_three max_four min_four   -- for this text's walks alone
set_option linter.unusedVariables false
set_option linter.unusedSimpArgs false
def spec_l3Flush.l0 : Nat → Int → Int → List ByteArray → List ByteArray → List Bool → List (S54) → Option (Int × List ByteArray × List ByteArray × List Bool × (List (S54)))
 | 0, _, _, _, _, _, _ => none
 | k + 1, x3, x489000, x489001, x489002, x489003, x489004 => if x3 < (x489004.length : Int) then (if 0 ≤ x3 then ((spec_l3Come.f x489000 x489001 x489002 x489003 x489004 ((rd_T54 x489004 x3).f0) ((rd_T54 x489004 x3).f1) ((rd_T54 x489004 x3).f2)).bind fun bt491 => (spec_l3Flush.l0 k (wrap64 (x3 + 1)) bt491.1 bt491.2.1 bt491.2.2.1 bt491.2.2.2.1 bt491.2.2.2.2)) else (none)) else (some (x489000, x489001, x489002, x489003, (([] : List (S54)))))
def spec_l3Flush.f (k : Nat) (a0_0 : Int) (l0_1 : List ByteArray) (l0_2 : List ByteArray) (l0_3 : List Bool) (l0_4 : List (S54)) : Option (Int × List ByteArray × List ByteArray × List Bool × (List (S54))) := spec_l3Flush.l0 k 0 a0_0 l0_1 l0_2 l0_3 l0_4
def spec_l3Flush.T4 : Bool × List (List Nat × List Nat) := (true, [([], []), ([], []), ([1], [1]), ([], []), ([2, 3], [2, 3]), ([4], [4]), ([0, 5], [0, 5]), ([6, 6, 0, 1, 2, 3, 4, 5, 6], [6])])
def spec_l3Flush.B4 : List Nat := [0, 0, 2, 0, 14, 30, 63, 127]
theorem spec_l3Flush.tab4 : rtab .any (opsOf Try.f79 4) = spec_l3Flush.T4 := by kernel_rfl
theorem spec_l3Flush.bits4 : waitsOk spec_l3Flush.T4.2 spec_l3Flush.B4 = true := by kernel_rfl
set_option maxHeartbeats 8000000 in
set_option maxRecDepth 100000 in
theorem spec_l3Flush.calls (k : Nat) (a0_0 : Int) (P0_1_ : Nat → Prop) (u9000_ : Value) (l0_1 : List ByteArray) (P0_2_ : Nat → Prop) (u9001_ : Value) (l0_2 : List ByteArray) (P0_3_ : Nat → Prop) (u9002_ : Value) (l0_3 : List Bool) (P0_4_ : Nat → Prop) (u9003_ : Value) (l0_4 : List (S54)) (r1 : Int) (r2 : List ByteArray) (r3 : List ByteArray) (r4 : List Bool) (r5 : List (S54)) (w0 w : World) (hB : Below w0.heap.size w0 w) (ho0_1 : Kd.R Kd.string 9 w w0.heap.size P0_1_ u9000_ l0_1) (hp0_1_0_2 : ∀ k_, P0_1_ k_ → ¬ P0_2_ k_) (ho0_2 : Kd.R Kd.string 9 w w0.heap.size P0_2_ u9001_ l0_2) (hp0_2_0_1 : ∀ k_, P0_2_ k_ → ¬ P0_1_ k_) (ho0_3 : Kd.R Kd.bool 4 w w0.heap.size P0_3_ u9002_ l0_3) (ho0_4 : Kd.R k54 54 w w0.heap.size P0_4_ u9003_ l0_4) (h : spec_l3Flush.f k a0_0 l0_1 l0_2 l0_3 l0_4 = some (r1, r2, r3, r4, r5)) :
  Calls Try.prog 79 #[.agg #[.int .i64 a0_0, u9000_, u9001_, u9002_, u9003_]] w fun e w' => ∃ v1_ v2_ v3_ v4_ : Value, e = .returned (.agg #[.int .i64 r1, v1_, v2_, v3_, v4_]) ∧ Kd.R Kd.string 9 w' w0.heap.size (fun k_ => ((P0_1_ k_ ∨ P0_2_ k_ ∨ P0_3_ k_ ∨ P0_4_ k_) ∨ w.heap.size ≤ k_) ∧ some k_ ≠ (v2_ : Value).ownBlock) v1_ r2 ∧ Kd.R Kd.string 9 w' w0.heap.size (fun k_ => ((P0_1_ k_ ∨ P0_2_ k_ ∨ P0_3_ k_ ∨ P0_4_ k_) ∨ w.heap.size ≤ k_) ∧ some k_ ≠ (v1_ : Value).ownBlock) v2_ r3 ∧ Kd.R Kd.bool 4 w' w0.heap.size (fun k_ => ((P0_1_ k_ ∨ P0_2_ k_ ∨ P0_3_ k_ ∨ P0_4_ k_) ∨ w.heap.size ≤ k_)) v3_ r4 ∧ Kd.R k54 54 w' w0.heap.size (fun k_ => ((P0_1_ k_ ∨ P0_2_ k_ ∨ P0_3_ k_ ∨ P0_4_ k_) ∨ w.heap.size ≤ k_)) v4_ r5 ∧ Below w0.heap.size w0 w' ∧ Kept w w' (fun k_ => P0_1_ k_ ∨ P0_2_ k_ ∨ P0_3_ k_ ∨ P0_4_ k_) := by
 have hu28 := Try.underlying28
 have hu54 := Try.underlying54
 have HO0_1 := Az.mk (show Kd.R Kd.string 9 w w0.heap.size (fun k_ => ((P0_1_ k_ ∨ P0_2_ k_ ∨ P0_3_ k_ ∨ P0_4_ k_) ∨ w.heap.size ≤ k_) ∧ some k_ ≠ (u9001_ : Value).ownBlock) u9000_ l0_1 from Kd.R_mono ho0_1 (fun k_ hk => ⟨(.inl (.inl hk)), fun e_ => hp0_1_0_2 k_ hk (ho0_2.1 k_ e_.symm)⟩))
 have HO0_2 := Az.mk (show Kd.R Kd.string 9 w w0.heap.size (fun k_ => ((P0_1_ k_ ∨ P0_2_ k_ ∨ P0_3_ k_ ∨ P0_4_ k_) ∨ w.heap.size ≤ k_) ∧ some k_ ≠ (u9000_ : Value).ownBlock) u9001_ l0_2 from Kd.R_mono ho0_2 (fun k_ hk => ⟨(.inl (.inr (.inl hk))), fun e_ => hp0_2_0_1 k_ hk (ho0_1.1 k_ e_.symm)⟩))
 have HO0_3 := Az.mk (show Kd.R Kd.bool 4 w w0.heap.size (fun k_ => ((P0_1_ k_ ∨ P0_2_ k_ ∨ P0_3_ k_ ∨ P0_4_ k_) ∨ w.heap.size ≤ k_)) u9002_ l0_3 from Kd.R_mono ho0_3 (fun k_ hk => (.inl (.inr (.inr (.inl hk))))))
 have HO0_4 := Az.mk (show Kd.R k54 54 w w0.heap.size (fun k_ => ((P0_1_ k_ ∨ P0_2_ k_ ∨ P0_3_ k_ ∨ P0_4_ k_) ∨ w.heap.size ≤ k_)) u9003_ l0_4 from Kd.R_mono ho0_4 (fun k_ hk => (.inl (.inr (.inr (.inr hk))))))
 have HK := Az.mk (Kept.refl w (fun k_ => P0_1_ k_ ∨ P0_2_ k_ ∨ P0_3_ k_ ∨ P0_4_ k_))
 have HW0 := Az.mk hB.size
 have HB := Az.mk hB
 clear hB
 have H : (spec_l3Flush.l0 k 0 a0_0 l0_1 l0_2 l0_3 l0_4) = some (r1, r2, r3, r4, r5) := h
 clear h
 have H' := Az.mk H
 clear H
 obtain ⟨Ao2, co2, eo2⟩ := Kd.R_slice HO0_1.out
 subst eo2
 obtain ⟨Ao3, co3, eo3⟩ := Kd.R_slice HO0_2.out
 subst eo3
 obtain ⟨Ao4, co4, eo4⟩ := Kd.R_slice HO0_3.out
 subst eo4
 obtain ⟨Ao5, co5, eo5⟩ := Kd.R_slice HO0_4.out
 subst eo5
 go_enter Try.func79, Try.ntmps79
 go_wp2_with (first | ((with_reducible refine zqg (N := 1) rfl ?_); refine zqb ?hg (N := 1) ?hd (cs := #[.int .i64 a0_0, .slice Ao2 l0_1.length co2, .slice Ao3 l0_2.length co3, .slice Ao4 l0_3.length co4, .slice Ao5 l0_4.length co5]) (t := 28) ?hr ?_; (case hd => rfl); (case hg => rfl); (case hr => first | (go_simp; done) | (go_simp; rfl)); intro gb488 hg w6 hbox hb; have n0_ := Az.mk (Kd.R_below (by (with_reducible repeat (first | apply Kd.R_alloc | apply Kd.R_drewN | apply Kd.R_drew)); exact HO0_1.out) hb); have n1_ := Az.mk (Kd.R_below (by (with_reducible repeat (first | apply Kd.R_alloc | apply Kd.R_drewN | apply Kd.R_drew)); exact HO0_2.out) hb); have n2_ := Az.mk (Kd.R_below (by (with_reducible repeat (first | apply Kd.R_alloc | apply Kd.R_drewN | apply Kd.R_drew)); exact HO0_3.out) hb); have n3_ := Az.mk (Kd.R_below (by (with_reducible repeat (first | apply Kd.R_alloc | apply Kd.R_drewN | apply Kd.R_drew)); exact HO0_4.out) hb); have n4_ := Az.mk (Kept.below (S := (fun k_ => P0_1_ k_ ∨ P0_2_ k_ ∨ P0_3_ k_ ∨ P0_4_ k_)) (by repeat (first | (with_reducible first | exact HK.out | apply Kept.alloc | apply Kept.drewN | apply Kept.drew) | exact HK.out)) hb); have n5_ := Az.mk (below_step (by repeat (first | (with_reducible first | exact HB.out | apply zq2 | apply zq1 | apply zqd) | exact HB.out)) hb); have n6_ := Az.mk (hbox); have n7_ := Az.mk ((by rw [hg]; exact (by first | exact HK.out.1 | exact (show Kept w _ (fun k_ => P0_1_ k_ ∨ P0_2_ k_ ∨ P0_3_ k_ ∨ P0_4_ k_) from by repeat (first | (with_reducible first | exact HK.out | apply Kept.alloc | apply Kept.drewN | apply Kept.drew) | exact HK.out)).1) : w.heap.size ≤ gb488)); have n8_ := Az.mk ((by rw [hg]; exact (below_size (by repeat (first | (with_reducible first | exact HB.out | apply zq2 | apply zq1 | apply zqd) | exact HB.out))) : w0.heap.size ≤ gb488)); clear HO0_1; clear HO0_2; clear HO0_3; clear HO0_4; clear HK; clear HB; have HO0_1 := n0_; have HO0_2 := n1_; have HO0_3 := n2_; have HO0_4 := n3_; have HK := n4_; have HB := n5_; have BK488 := n6_; have GW488 := n7_; have GE488 := n8_; clear n0_ n1_ n2_ n3_ n4_ n5_ n6_ n7_ n8_; clear hb hbox hg) | ((with_reducible refine zqg (N := 2) rfl ?_); refine zqb ?hg (N := 2) ?hd (cs := #[.int .i64 0, .slice none 0 0, .slice none 0 0, .slice none 0 0, .slice none 0 0]) (t := 28) ?hr ?_; (case hd => rfl); (case hg => rfl); (case hr => first | (go_simp; done) | (go_simp; rfl)); intro gb489 hg w7 hbox hb; have n0_ := Az.mk (Kd.R_below (by (with_reducible repeat (first | apply Kd.R_alloc | apply Kd.R_drewN | apply Kd.R_drew)); exact HO0_1.out) hb); have n1_ := Az.mk (Kd.R_below (by (with_reducible repeat (first | apply Kd.R_alloc | apply Kd.R_drewN | apply Kd.R_drew)); exact HO0_2.out) hb); have n2_ := Az.mk (Kd.R_below (by (with_reducible repeat (first | apply Kd.R_alloc | apply Kd.R_drewN | apply Kd.R_drew)); exact HO0_3.out) hb); have n3_ := Az.mk (Kd.R_below (by (with_reducible repeat (first | apply Kd.R_alloc | apply Kd.R_drewN | apply Kd.R_drew)); exact HO0_4.out) hb); have n4_ := Az.mk (blk_below (g := gb488) (o := .cells #[.int .i64 a0_0, .slice Ao2 l0_1.length co2, .slice Ao3 l0_2.length co3, .slice Ao4 l0_3.length co4, .slice Ao5 l0_4.length co5] 28 (0, 0)) (by (with_reducible repeat (first | refine zq6 ?_ _ | refine zq8 ?_ | refine zq7 ?_ _)); exact BK488.out) hb); have n5_ := Az.mk (Kept.below (S := (fun k_ => P0_1_ k_ ∨ P0_2_ k_ ∨ P0_3_ k_ ∨ P0_4_ k_)) (by repeat (first | (with_reducible first | exact HK.out | apply Kept.alloc | apply Kept.drewN | apply Kept.drew | refine Kept.setCell ?_ (.inr GW488.out) _) | exact HK.out)) hb); have n6_ := Az.mk (below_step (by repeat (first | (with_reducible first | exact HB.out | apply zq2 | apply zq1 | apply zqd | refine zq3 ?_ GE488.out) | exact HB.out)) hb); have n7_ := Az.mk (hbox); have n8_ := Az.mk ((by rw [hg]; exact (by first | exact HK.out.1 | exact (show Kept w _ (fun k_ => P0_1_ k_ ∨ P0_2_ k_ ∨ P0_3_ k_ ∨ P0_4_ k_) from by repeat (first | (with_reducible first | exact HK.out | apply Kept.alloc | apply Kept.drewN | apply Kept.drew | refine Kept.setCell ?_ (.inr GW488.out) _) | exact HK.out)).1) : w.heap.size ≤ gb489)); have n9_ := Az.mk ((by rw [hg]; exact (below_size (by repeat (first | (with_reducible first | exact HB.out | apply zq2 | apply zq1 | apply zqd | refine zq3 ?_ GE488.out) | exact HB.out))) : w0.heap.size ≤ gb489)); have n10_ := Az.mk ((by rw [hg]; exact Nat.ne_of_lt (blk_lt (g := gb488) (o := .cells #[.int .i64 a0_0, .slice Ao2 l0_1.length co2, .slice Ao3 l0_2.length co3, .slice Ao4 l0_3.length co4, .slice Ao5 l0_4.length co5] 28 (0, 0)) (by (with_reducible repeat (first | refine zq6 ?_ _ | refine zq8 ?_ | refine zq7 ?_ _)); exact BK488.out)) : gb488 ≠ gb489)); have n11_ := Az.mk ((by rw [hg]; exact Nat.ne_of_gt (blk_lt (g := gb488) (o := .cells #[.int .i64 a0_0, .slice Ao2 l0_1.length co2, .slice Ao3 l0_2.length co3, .slice Ao4 l0_3.length co4, .slice Ao5 l0_4.length co5] 28 (0, 0)) (by (with_reducible repeat (first | refine zq6 ?_ _ | refine zq8 ?_ | refine zq7 ?_ _)); exact BK488.out)) : gb489 ≠ gb488)); clear HO0_1; clear HO0_2; clear HO0_3; clear HO0_4; clear BK488; clear HK; clear HB; have HO0_1 := n0_; have HO0_2 := n1_; have HO0_3 := n2_; have HO0_4 := n3_; have BK488 := n4_; have HK := n5_; have HB := n6_; have BK489 := n7_; have GW489 := n8_; have GE489 := n9_; have NB488_489 := n10_; have NB489_488 := n11_; clear n0_ n1_ n2_ n3_ n4_ n5_ n6_ n7_ n8_ n9_ n10_ n11_; clear hb hbox hg))
 go_loopg [3] k (fun kq v3 w' => ∃ (x3_1 : Int) (x489000_1 : Int) (x489001_1 : List ByteArray) (x489002_1 : List ByteArray) (x489003_1 : List Bool) (x489004_1 : List (S54)) (u489001 : Value) (u489002 : Value) (u489003 : Value) (u489004 : Value), v3 = .int .i64 x3_1 ∧ Az (spec_l3Flush.l0 kq x3_1 x489000_1 x489001_1 x489002_1 x489003_1 x489004_1 = some (r1, r2, r3, r4, r5)) ∧ Az (kq ≤ k) ∧ Az (Kd.R Kd.string 9 w' w0.heap.size (fun k_ => ((P0_1_ k_ ∨ P0_2_ k_ ∨ P0_3_ k_ ∨ P0_4_ k_) ∨ w.heap.size ≤ k_) ∧ some k_ ≠ (u489002 : Value).ownBlock) u489001 x489001_1) ∧ Az (Kd.R Kd.string 9 w' w0.heap.size (fun k_ => ((P0_1_ k_ ∨ P0_2_ k_ ∨ P0_3_ k_ ∨ P0_4_ k_) ∨ w.heap.size ≤ k_) ∧ some k_ ≠ (u489001 : Value).ownBlock) u489002 x489002_1) ∧ Az (Kd.R Kd.bool 4 w' w0.heap.size (fun k_ => ((P0_1_ k_ ∨ P0_2_ k_ ∨ P0_3_ k_ ∨ P0_4_ k_) ∨ w.heap.size ≤ k_)) u489003 x489003_1) ∧ Az (Kd.R k54 54 w' w0.heap.size (fun k_ => ((P0_1_ k_ ∨ P0_2_ k_ ∨ P0_3_ k_ ∨ P0_4_ k_) ∨ w.heap.size ≤ k_)) u489004 x489004_1) ∧ Az (w'.heap[gb488]? = some (.cells #[.int .i64 x489000_1, u489001, u489002, u489003, u489004] 28 (0, 0))) ∧ Az (w'.heap[gb489]? = some (.cells #[.int .i64 0, (.slice none 0 0), (.slice none 0 0), (.slice none 0 0), (.slice none 0 0)] 28 (0, 0))) ∧ Az (Kept w w' (fun k_ => P0_1_ k_ ∨ P0_2_ k_ ∨ P0_3_ k_ ∨ P0_4_ k_)) ∧ Az (Below w0.heap.size w0 w'))
 case atStart => exact ⟨(0), (a0_0), (l0_1), (l0_2), (l0_3), (l0_4), (.slice Ao2 l0_1.length co2), (.slice Ao3 l0_2.length co3), (.slice Ao4 l0_3.length co4), (.slice Ao5 l0_4.length co5), (by first | rfl | (simp; done) | (simp [*]; done)), H', ⟨Nat.le_refl _⟩, ⟨by (with_reducible repeat (first | apply Kd.R_alloc | apply Kd.R_drewN | apply Kd.R_drew)); exact HO0_1.out⟩, ⟨by (with_reducible repeat (first | apply Kd.R_alloc | apply Kd.R_drewN | apply Kd.R_drew)); exact HO0_2.out⟩, ⟨by (with_reducible repeat (first | apply Kd.R_alloc | apply Kd.R_drewN | apply Kd.R_drew)); exact HO0_3.out⟩, ⟨by (with_reducible repeat (first | apply Kd.R_alloc | apply Kd.R_drewN | apply Kd.R_drew)); exact HO0_4.out⟩, ⟨by (with_reducible repeat (first | refine zq6 ?_ _ | refine zq8 ?_ | refine zq7 ?_ _)); exact BK488.out⟩, ⟨by (with_reducible repeat (first | refine zq6 ?_ _ | refine zq8 ?_ | refine zq7 ?_ _)); exact BK489.out⟩, ⟨by repeat (first | (with_reducible first | exact HK.out | apply Kept.alloc | apply Kept.drewN | apply Kept.drew | refine Kept.setCell ?_ (.inr GW488.out) _ | refine Kept.setCell ?_ (.inr GW489.out) _) | exact HK.out)⟩, ⟨by repeat (first | (with_reducible first | exact HB.out | apply zq2 | apply zq1 | apply zqd | refine zq3 ?_ GE488.out | refine zq3 ?_ GE489.out) | exact HB.out)⟩⟩
 case round =>
  clear H'
  try clear p2
  try clear c7
  obtain ⟨x3_1, x489000_1, x489001_1, x489002_1, x489003_1, x489004_1, u489001, u489002, u489003, u489004, rfl, HA, HK1, HO_489001, HO_489002, HO_489003, HO_489004, BK488, BK489, HK, HB⟩ := hrel
  cases gk with
  | zero => exact absurd HA.out (by simp [spec_l3Flush.l0])
  | succ k1 =>
   have H := HA.out
   clear HA
   simp only [spec_l3Flush.l0] at H
   by_cases c8 : x3_1 < (x489004_1.length : Int)
   ·rw [if_pos c8] at H
    have c8b0 : decide (x3_1 < (x489004_1.length : Int)) = true := decide_eq_true c8
    clear c8
    by_cases c9 : 0 ≤ x3_1
    ·rw [if_pos c9] at H
     have c9b0 : decide (0 ≤ x3_1) = true := decide_eq_true c9
     clear c9
     replace H := Option.bind_eq_some_iff.mp H
     obtain ⟨⟨t491, t492, t495, t498, t501⟩, A100, H⟩ := H
     replace H : (spec_l3Flush.l0 k1 (wrap64 (x3_1 + 1)) t491 t492 t495 t498 t501) = some (r1, r2, r3, r4, r5) := H
     have A10 := Az.mk A100
     clear A100
     have H' := Az.mk H
     clear H
     have hnb11 := NB488_489.out
     have hnc11 := NB489_488.out
     have hcz12_0 : wr.cell? ⟨gb488, 0, none⟩ = some (.int .i64 x489000_1) := (zq4 BK488.out 0).trans rfl
     have hcz12_1 : wr.cell? ⟨gb488, 1, none⟩ = some (u489001) := (zq4 BK488.out 1).trans rfl
     have hcz12_2 : wr.cell? ⟨gb488, 2, none⟩ = some (u489002) := (zq4 BK488.out 2).trans rfl
     have hcz12_3 : wr.cell? ⟨gb488, 3, none⟩ = some (u489003) := (zq4 BK488.out 3).trans rfl
     have hcz12_4 : wr.cell? ⟨gb488, 4, none⟩ = some (u489004) := (zq4 BK488.out 4).trans rfl
     have hfz12_0 := zq5 BK488.out 0
     have hfz12_1 := zq5 BK488.out 1
     have hfz12_2 := zq5 BK488.out 2
     have hfz12_3 := zq5 BK488.out 3
     have hfz12_4 := zq5 BK488.out 4
     obtain ⟨Ao13, co13, eo13⟩ := Kd.R_slice HO_489004.out
     subst eo13
     try go_wp2
     have n0_ := Az.mk (Kd.R_drew HO_489001.out)
     have n1_ := Az.mk (Kd.R_drew HO_489002.out)
     have n2_ := Az.mk (Kd.R_drew HO_489003.out)
     have n3_ := Az.mk (Kd.R_drew HO_489004.out)
     have n4_ := Az.mk (zq8 BK488.out)
     have n5_ := Az.mk (zq8 BK489.out)
     have n6_ := Az.mk (Kept.drew HK.out)
     have n7_ := Az.mk (zqd HB.out)
     clear HO_489001
     clear HO_489002
     clear HO_489003
     clear HO_489004
     clear BK488
     clear BK489
     clear HK
     clear HB
     have HO_489001 := n0_
     have HO_489002 := n1_
     have HO_489003 := n2_
     have HO_489004 := n3_
     have BK488 := n4_
     have BK489 := n5_
     have HK := n6_
     have HB := n7_
     clear n0_ n1_ n2_ n3_ n4_ n5_ n6_ n7_
     have p490 : 0 ≤ (x3_1 : Int) := of_decide_eq_true (by first | (with_reducible assumption) | assumption)
     have q490 : x3_1 < (x489004_1.length : Int) := of_decide_eq_true (by first | (with_reducible assumption) | assumption)
     obtain ⟨ad490, e490, hx490_0, hx490_1, hx490_2⟩ := at_T54 (Kd.R_reads' HO_489004.out).2.2 x3_1 p490 q490
     cases e490
     replace p490 := eq_true p490
     replace q490 := eq_true q490
     obtain ⟨Ao15, co15, eo15⟩ := Kd.R_slice HO_489001.out
     (first | subst eo15 | (injection eo15 with f1_ f2_ f3_; have f4_ := f1_.symm; have f5_ := f3_.symm; clear f1_ f2_ f3_; subst f4_; subst f5_))
     obtain ⟨Ao16, co16, eo16⟩ := Kd.R_slice HO_489002.out
     (first | subst eo16 | (injection eo16 with f1_ f2_ f3_; have f4_ := f1_.symm; have f5_ := f3_.symm; clear f1_ f2_ f3_; subst f4_; subst f5_))
     obtain ⟨Ao17, co17, eo17⟩ := Kd.R_slice HO_489003.out
     (first | subst eo17 | (injection eo17 with f1_ f2_ f3_; have f4_ := f1_.symm; have f5_ := f3_.symm; clear f1_ f2_ f3_; subst f4_; subst f5_))
     refine start_ (n := 8) (S := fun w' => w'.cell? ⟨gb488, 0, none⟩ = some (.int .i64 x489000_1) ∧ w'.cell? ⟨gb488, 1, none⟩ = some (.slice Ao15 x489001_1.length co15) ∧ w'.cell? ⟨gb488, 2, none⟩ = some (.slice Ao16 x489002_1.length co16) ∧ w'.cell? ⟨gb488, 3, none⟩ = some (.slice Ao17 x489003_1.length co17) ∧ w'.cell? ⟨gb488, 4, none⟩ = some (.slice (some ad490) x489004_1.length co13) ∧ w'.cell? (ad490.add ((x3_1).toNat * 3)) = some (.bool ((rd_T54 x489004_1 x3_1).f0)) ∧ w'.cell? ⟨(ad490.add ((x3_1).toNat * 3)).block, (ad490.add ((x3_1).toNat * 3)).off + 1, none⟩ = some (.int .i64 ((rd_T54 x489004_1 x3_1).f1)) ∧ w'.cell? ⟨(ad490.add ((x3_1).toNat * 3)).block, (ad490.add ((x3_1).toNat * 3)).off + 2, none⟩ = some (.string ((rd_T54 x489004_1 x3_1).f2))) (ds := [6, 7]) #[false, false, false, false, false, false, false, false] (by kernel_rfl) rfl rfl ⟨(zq4 BK488.out 0).trans rfl, (zq4 BK488.out 1).trans rfl, (zq4 BK488.out 2).trans rfl, (zq4 BK488.out 3).trans rfl, (zq4 BK488.out 4).trans rfl, hx490_0, hx490_1, hx490_2⟩ (fun hHeld => ?_); refine with_tabW spec_l3Flush.tab4 spec_l3Flush.bits4 (fun HT_ HW_ => ?_)
     generalize wr.drew = w14 at HO_489001 HO_489002 HO_489003 HO_489004 BK488 BK489 HK HB hx490_0 hx490_1 hx490_2 hHeld ⊢
     refine zqp (i := 1) (N := some 12) (v := ?_) (a' := ?_) #[false, true, false, false, false, false, false, false] rfl rfl (any_of HT_.out (by kernel_rfl)) (fun _ _ _ h => h) (Or.inl ⟨by rfl, ?_⟩) ?_ ?_
     rotate_left
     ·intro w'
      go_simp
      with_reducible rfl
     rotate_left
     ·simp only [Act.put, List.setIfInBounds_toArray, List.set_cons_zero, List.set_cons_succ, i64_w, i32_w]
      rfl
     refine zqp (i := 3) (N := some 14) (v := ?_) (a' := ?_) #[false, true, false, true, false, false, false, false] rfl rfl (any_of HT_.out (by kernel_rfl)) (fun _ _ _ h => h) (Or.inl ⟨by rfl, ?_⟩) ?_ ?_
     rotate_left
     ·intro w'
      go_simp
      with_reducible rfl
     rotate_left
     ·simp only [Act.put, List.setIfInBounds_toArray, List.set_cons_zero, List.set_cons_succ, i64_w, i32_w]
      rfl
     refine zqt (i := 0) (N := some 11) (v := ?_) (a' := ?_) #[true, true, false, true, false, false, false, false] rfl rfl (take_ofW HT_.out HW_.out (by kernel_rfl)) (fun _ _ _ h => h) (Or.inl ⟨by rfl, ?_⟩) hHeld ?_ ?_
     rotate_left
     ·rintro w' ⟨s0, s1, s2, s3, s4, s5, s6, s7⟩
      go_simp
      with_reducible rfl
     rotate_left
     ·simp only [Act.put, List.setIfInBounds_toArray, List.set_cons_zero, List.set_cons_succ, i64_w, i32_w]
      rfl
     refine zqt (i := 2) (N := some 13) (v := ?_) (a' := ?_) #[true, true, true, true, false, false, false, false] rfl rfl (take_ofW HT_.out HW_.out (by kernel_rfl)) (fun _ _ _ h => h) (Or.inl ⟨by rfl, ?_⟩) hHeld ?_ ?_
     rotate_left
     ·rintro w' ⟨s0, s1, s2, s3, s4, s5, s6, s7⟩
      go_simp
      with_reducible rfl
     rotate_left
     ·simp only [Act.put, List.setIfInBounds_toArray, List.set_cons_zero, List.set_cons_succ, i64_w, i32_w]
      rfl
     refine zqp (i := 4) (N := some 15) (v := ?_) (a' := ?_) #[true, true, true, true, true, false, false, false] rfl rfl (any_of HT_.out (by kernel_rfl)) (fun _ _ _ h => h) (Or.inl ⟨by rfl, ?_⟩) ?_ ?_
     rotate_left
     ·intro w'
      go_simp
      with_reducible rfl
     rotate_left
     ·simp only [Act.put, List.setIfInBounds_toArray, List.set_cons_zero, List.set_cons_succ, i64_w, i32_w]
      rfl
     refine zqt (i := 5) (N := some 16) (v := ?_) (a' := ?_) #[true, true, true, true, true, true, false, false] rfl rfl (take_ofW HT_.out HW_.out (by kernel_rfl)) (fun _ _ _ h => h) (Or.inl ⟨by rfl, ?_⟩) hHeld ?_ ?_
     rotate_left
     ·rintro w' ⟨s0, s1, s2, s3, s4, s5, s6, s7⟩
      go_simp
      with_reducible rfl
     rotate_left
     ·simp only [Act.put, List.setIfInBounds_toArray, List.set_cons_zero, List.set_cons_succ, i64_w, i32_w]
      rfl
     refine last_ (i := 6) (N := some 17) #[true, true, true, true, true, true, true, false] rfl rfl (one_of HT_.out (by kernel_rfl)) (by decide) (fun K hK => ?_)
     refine goes_ Try.func101 (by kernel_rfl) rfl #[.agg #[.int .i64 x489000_1, .slice Ao15 x489001_1.length co15, .slice Ao16 x489002_1.length co16, .slice Ao17 x489003_1.length co17, .slice (some ad490) x489004_1.length co13], .agg #[.bool ((rd_T54 x489004_1 x3_1).f0), .int .i64 ((rd_T54 x489004_1 x3_1).f1), .string ((rd_T54 x489004_1 x3_1).f2)]] (by rfl) rfl rfl (by (try simp only [List.map_toArray, List.map_cons, List.map_nil]); first | done | rfl | (simp only [List.length_drop, List.length_take]; rfl)) ?_
     with_reducible refine (spec_l3Come.calls x489000_1 (fun k_ => some k_ = (.slice Ao15 x489001_1.length co15 : Value).ownBlock) (.slice Ao15 x489001_1.length co15) x489001_1 (fun k_ => some k_ = (.slice Ao16 x489002_1.length co16 : Value).ownBlock) (.slice Ao16 x489002_1.length co16) x489002_1 (fun k_ => some k_ = (.slice Ao17 x489003_1.length co17 : Value).ownBlock) (.slice Ao17 x489003_1.length co17) x489003_1 (fun k_ => some k_ = (.slice (some ad490) x489004_1.length co13 : Value).ownBlock) (.slice (some ad490) x489004_1.length co13) x489004_1 ((rd_T54 x489004_1 x3_1).f0) ((rd_T54 x489004_1 x3_1).f1) ((rd_T54 x489004_1 x3_1).f2) t491 t492 t495 t498 t501 w0 _ ?side1 ?side2 ?side3 ?side4 ?side5 ?side6 ?side7 A10.out).mono ?_
     (case side1 => repeat (first | (with_reducible first | exact HB.out | apply zq2 | apply zq1 | apply zqd | refine zq3 ?_ GE488.out | refine zq3 ?_ GE489.out) | exact HB.out))
     (case side2 => exact Kd.R_tight rfl HO_489001.out)
     (case side3 => exact fun k_ e_ => (HO_489001.out.1 k_ e_.symm).2)
     (case side4 => exact Kd.R_tight rfl HO_489002.out)
     (case side5 => exact fun k_ e_ => (HO_489002.out.1 k_ e_.symm).2)
     (case side6 => exact Kd.R_tight rfl HO_489003.out)
     (case side7 => exact Kd.R_tight rfl HO_489004.out)
     rintro e w18 ⟨v493, v496, v499, v502, rfl, ho0, ho1, ho2, ho3, hb, hkp⟩
     refine ⟨_, rfl, ?_⟩
     have n0_ := Az.mk (blk_kept (by (with_reducible repeat (first | refine zq6 ?_ _ | refine zq8 ?_ | refine zq7 ?_ _)); exact BK488.out) hkp (fun hs_ => Or.elim hs_ (fun e_ => (fun e_ => (Kd.R_ne HO_489001.out BK488.out (by decide)) e_) e_) (fun e_ => Or.elim e_ (fun e_ => (fun e_ => (Kd.R_ne HO_489002.out BK488.out (by decide)) e_) e_) (fun e_ => Or.elim e_ (fun e_ => (fun e_ => (Kd.R_ne HO_489003.out BK488.out (by decide)) e_) e_) (fun e_ => (fun e_ => (Kd.R_ne HO_489004.out BK488.out (by decide)) e_) e_)))))
     have n1_ := Az.mk (blk_kept (by (with_reducible repeat (first | refine zq6 ?_ _ | refine zq8 ?_ | refine zq7 ?_ _)); exact BK489.out) hkp (fun hs_ => Or.elim hs_ (fun e_ => (fun e_ => (Kd.R_ne HO_489001.out BK489.out (by decide)) e_) e_) (fun e_ => Or.elim e_ (fun e_ => (fun e_ => (Kd.R_ne HO_489002.out BK489.out (by decide)) e_) e_) (fun e_ => Or.elim e_ (fun e_ => (fun e_ => (Kd.R_ne HO_489003.out BK489.out (by decide)) e_) e_) (fun e_ => (fun e_ => (Kd.R_ne HO_489004.out BK489.out (by decide)) e_) e_)))))
     have n2_ := Az.mk (Kd.R_mono (ok' := fun k_ => ((P0_1_ k_ ∨ P0_2_ k_ ∨ P0_3_ k_ ∨ P0_4_ k_) ∨ w.heap.size ≤ k_) ∧ some k_ ≠ (v496 : Value).ownBlock) ho0 (fun k_ hk_ => ⟨Or.elim hk_.1 (fun hs_ => Or.elim hs_ (fun hs_ => (HO_489001.out.1 k_ (hs_).symm).1) (fun hs_ => Or.elim hs_ (fun hs_ => (HO_489002.out.1 k_ (hs_).symm).1) (fun hs_ => Or.elim hs_ (fun hs_ => (HO_489003.out.1 k_ (hs_).symm)) (fun hs_ => (HO_489004.out.1 k_ (hs_).symm))))) (fun hn_ => (.inr (Nat.le_trans (by first | exact HK.out.1 | exact (show Kept w _ (fun k_ => P0_1_ k_ ∨ P0_2_ k_ ∨ P0_3_ k_ ∨ P0_4_ k_) from by repeat (first | (with_reducible first | exact HK.out | apply Kept.alloc | apply Kept.drewN | apply Kept.drew | refine Kept.setCell ?_ (.inr GW488.out) _ | refine Kept.setCell ?_ (.inr GW489.out) _) | exact HK.out)).1) hn_))), hk_.2⟩))
     have n3_ := Az.mk (Kd.R_mono (ok' := fun k_ => ((P0_1_ k_ ∨ P0_2_ k_ ∨ P0_3_ k_ ∨ P0_4_ k_) ∨ w.heap.size ≤ k_) ∧ some k_ ≠ (v493 : Value).ownBlock) ho1 (fun k_ hk_ => ⟨Or.elim hk_.1 (fun hs_ => Or.elim hs_ (fun hs_ => (HO_489001.out.1 k_ (hs_).symm).1) (fun hs_ => Or.elim hs_ (fun hs_ => (HO_489002.out.1 k_ (hs_).symm).1) (fun hs_ => Or.elim hs_ (fun hs_ => (HO_489003.out.1 k_ (hs_).symm)) (fun hs_ => (HO_489004.out.1 k_ (hs_).symm))))) (fun hn_ => (.inr (Nat.le_trans (by first | exact HK.out.1 | exact (show Kept w _ (fun k_ => P0_1_ k_ ∨ P0_2_ k_ ∨ P0_3_ k_ ∨ P0_4_ k_) from by repeat (first | (with_reducible first | exact HK.out | apply Kept.alloc | apply Kept.drewN | apply Kept.drew | refine Kept.setCell ?_ (.inr GW488.out) _ | refine Kept.setCell ?_ (.inr GW489.out) _) | exact HK.out)).1) hn_))), hk_.2⟩))
     have n4_ := Az.mk (Kd.R_mono (ok' := fun k_ => ((P0_1_ k_ ∨ P0_2_ k_ ∨ P0_3_ k_ ∨ P0_4_ k_) ∨ w.heap.size ≤ k_)) ho2 (fun k_ hk_ => Or.elim hk_ (fun hs_ => Or.elim hs_ (fun hs_ => (HO_489001.out.1 k_ (hs_).symm).1) (fun hs_ => Or.elim hs_ (fun hs_ => (HO_489002.out.1 k_ (hs_).symm).1) (fun hs_ => Or.elim hs_ (fun hs_ => (HO_489003.out.1 k_ (hs_).symm)) (fun hs_ => (HO_489004.out.1 k_ (hs_).symm))))) (fun hn_ => (.inr (Nat.le_trans (by first | exact HK.out.1 | exact (show Kept w _ (fun k_ => P0_1_ k_ ∨ P0_2_ k_ ∨ P0_3_ k_ ∨ P0_4_ k_) from by repeat (first | (with_reducible first | exact HK.out | apply Kept.alloc | apply Kept.drewN | apply Kept.drew | refine Kept.setCell ?_ (.inr GW488.out) _ | refine Kept.setCell ?_ (.inr GW489.out) _) | exact HK.out)).1) hn_)))))
     have n5_ := Az.mk (Kd.R_mono (ok' := fun k_ => ((P0_1_ k_ ∨ P0_2_ k_ ∨ P0_3_ k_ ∨ P0_4_ k_) ∨ w.heap.size ≤ k_)) ho3 (fun k_ hk_ => Or.elim hk_ (fun hs_ => Or.elim hs_ (fun hs_ => (HO_489001.out.1 k_ (hs_).symm).1) (fun hs_ => Or.elim hs_ (fun hs_ => (HO_489002.out.1 k_ (hs_).symm).1) (fun hs_ => Or.elim hs_ (fun hs_ => (HO_489003.out.1 k_ (hs_).symm)) (fun hs_ => (HO_489004.out.1 k_ (hs_).symm))))) (fun hn_ => (.inr (Nat.le_trans (by first | exact HK.out.1 | exact (show Kept w _ (fun k_ => P0_1_ k_ ∨ P0_2_ k_ ∨ P0_3_ k_ ∨ P0_4_ k_) from by repeat (first | (with_reducible first | exact HK.out | apply Kept.alloc | apply Kept.drewN | apply Kept.drew | refine Kept.setCell ?_ (.inr GW488.out) _ | refine Kept.setCell ?_ (.inr GW489.out) _) | exact HK.out)).1) hn_)))))
     have n6_ := Az.mk (Kept.then_ (S := (fun k_ => P0_1_ k_ ∨ P0_2_ k_ ∨ P0_3_ k_ ∨ P0_4_ k_)) (by repeat (first | (with_reducible first | exact HK.out | apply Kept.alloc | apply Kept.drewN | apply Kept.drew | refine Kept.setCell ?_ (.inr GW488.out) _ | refine Kept.setCell ?_ (.inr GW489.out) _) | exact HK.out)) hkp (fun k_ hs_ => Or.elim hs_ (fun e_ => (fun e_ => (HO_489001.out.1 k_ e_.symm).1) e_) (fun e_ => Or.elim e_ (fun e_ => (fun e_ => (HO_489002.out.1 k_ e_.symm).1) e_) (fun e_ => Or.elim e_ (fun e_ => (fun e_ => (HO_489003.out.1 k_ e_.symm)) e_) (fun e_ => (fun e_ => (HO_489004.out.1 k_ e_.symm)) e_)))))
     have n7_ := Az.mk (hb)
     clear BK488
     clear BK489
     clear HK
     clear HB
     clear HO_489001
     clear HO_489002
     clear HO_489003
     clear HO_489004
     have BK488 := n0_
     have BK489 := n1_
     have HO494 := n2_
     have HO497 := n3_
     have HO500 := n4_
     have HO503 := n5_
     have HK := n6_
     have HB := n7_
     clear n0_ n1_ n2_ n3_ n4_ n5_ n6_ n7_
     (try clear hb)
     (try clear hkp)
     (try clear ho0)
     (try clear ho1)
     (try clear ho2)
     (try clear ho3)
     obtain ⟨Ao20, co20, eo20⟩ := Kd.R_slice HO494.out
     (first | subst eo20 | (injection eo20 with f1_ f2_ f3_; have f4_ := f1_.symm; have f5_ := f3_.symm; clear f1_ f2_ f3_; subst f4_; subst f5_))
     obtain ⟨Ao22, co22, eo22⟩ := Kd.R_slice HO497.out
     (first | subst eo22 | (injection eo22 with f1_ f2_ f3_; have f4_ := f1_.symm; have f5_ := f3_.symm; clear f1_ f2_ f3_; subst f4_; subst f5_))
     obtain ⟨Ao24, co24, eo24⟩ := Kd.R_slice HO500.out
     (first | subst eo24 | (injection eo24 with f1_ f2_ f3_; have f4_ := f1_.symm; have f5_ := f3_.symm; clear f1_ f2_ f3_; subst f4_; subst f5_))
     obtain ⟨Ao26, co26, eo26⟩ := Kd.R_slice HO503.out
     (first | subst eo26 | (injection eo26 with f1_ f2_ f3_; have f4_ := f1_.symm; have f5_ := f3_.symm; clear f1_ f2_ f3_; subst f4_; subst f5_))
     refine hK.out _ _ ?_
     clear hK K
     refine norm_ (a' := ?_) ?_ ?_
     rotate_left
     ·show Act.put _ (some 17) _ = _
      simp only [Act.put, List.setIfInBounds_toArray, List.set_cons_zero, List.set_cons_succ, i64_w, i32_w]
      rfl
     refine last_ (i := 7) (N := none) #[true, true, true, true, true, true, true, true] rfl rfl (one_of HT_.out (by kernel_rfl)) (by decide) (fun K hK => ?_)
     have hs19 : w18.cell? ⟨gb488, 0, none⟩ = some (.int .i64 x489000_1) := (zq4 BK488.out 0).trans rfl
     have hfs19 := zq5 BK488.out 0
     have hns19_1 := NB489_488.out
     have hms19_1 := NB488_489.out
     have hs21 : w18.cell? ⟨gb488, 1, none⟩ = some (.slice Ao15 x489001_1.length co15) := (zq4 BK488.out 1).trans rfl
     have hfs21 := zq5 BK488.out 1
     have hns21_1 := NB489_488.out
     have hms21_1 := NB488_489.out
     have hs23 : w18.cell? ⟨gb488, 2, none⟩ = some (.slice Ao16 x489002_1.length co16) := (zq4 BK488.out 2).trans rfl
     have hfs23 := zq5 BK488.out 2
     have hns23_1 := NB489_488.out
     have hms23_1 := NB488_489.out
     have hs25 : w18.cell? ⟨gb488, 3, none⟩ = some (.slice Ao17 x489003_1.length co17) := (zq4 BK488.out 3).trans rfl
     have hfs25 := zq5 BK488.out 3
     have hns25_1 := NB489_488.out
     have hms25_1 := NB488_489.out
     have hs27 : w18.cell? ⟨gb488, 4, none⟩ = some (.slice (some ad490) x489004_1.length co13) := (zq4 BK488.out 4).trans rfl
     have hfs27 := zq5 BK488.out 4
     have hns27_1 := NB489_488.out
     have hms27_1 := NB488_489.out
     refine skip_ (w1 := ?_) (by rfl) rfl ?_ ?_
     rotate_left
     ·go_simp
      rfl
     refine hK.out _ _ ?_
     clear hK K
     refine done_ (done_of HT_.out (by kernel_rfl)) ?_
     try go_wp2
     go_roundg k1
     case measure => have := HK1.out; omega
     case rel => exact ⟨(wrap64 (x3_1 + 1)), (t491), (t492), (t495), (t498), (t501), (.slice Ao20 t492.length co20), (.slice Ao22 t495.length co22), (.slice Ao24 t498.length co24), (.slice Ao26 t501.length co26), (by first | rfl | (simp; done) | (simp [*]; done)), H', ⟨by have := HK1.out; omega⟩, ⟨by (with_reducible repeat (first | apply Kd.R_alloc | apply Kd.R_drewN | apply Kd.R_drew)); exact Kd.R_mono (Kd.R_far (p := ⟨gb488, 4, none⟩) (Kd.R_far (p := ⟨gb488, 3, none⟩) (Kd.R_far (p := ⟨gb488, 2, none⟩) (Kd.R_far (p := ⟨gb488, 1, none⟩) (Kd.R_far (p := ⟨gb488, 0, none⟩) (Kd.R_types HO494.out BK488.out (by decide)) (fun _ hk => hk.2) (.int .i64 t491)) (fun _ hk => hk.2) (.slice Ao20 t492.length co20)) (fun _ hk => hk.2) (.slice Ao22 t495.length co22)) (fun _ hk => hk.2) (.slice Ao24 t498.length co24)) (fun _ hk => hk.2) (.slice Ao26 t501.length co26)) (fun _ hk => ⟨hk.1.1, hk.1.2⟩)⟩, ⟨by (with_reducible repeat (first | apply Kd.R_alloc | apply Kd.R_drewN | apply Kd.R_drew)); exact Kd.R_mono (Kd.R_far (p := ⟨gb488, 4, none⟩) (Kd.R_far (p := ⟨gb488, 3, none⟩) (Kd.R_far (p := ⟨gb488, 2, none⟩) (Kd.R_far (p := ⟨gb488, 1, none⟩) (Kd.R_far (p := ⟨gb488, 0, none⟩) (Kd.R_types HO497.out BK488.out (by decide)) (fun _ hk => hk.2) (.int .i64 t491)) (fun _ hk => hk.2) (.slice Ao20 t492.length co20)) (fun _ hk => hk.2) (.slice Ao22 t495.length co22)) (fun _ hk => hk.2) (.slice Ao24 t498.length co24)) (fun _ hk => hk.2) (.slice Ao26 t501.length co26)) (fun _ hk => ⟨hk.1.1, hk.1.2⟩)⟩, ⟨by (with_reducible repeat (first | apply Kd.R_alloc | apply Kd.R_drewN | apply Kd.R_drew)); exact Kd.R_mono (Kd.R_far (p := ⟨gb488, 4, none⟩) (Kd.R_far (p := ⟨gb488, 3, none⟩) (Kd.R_far (p := ⟨gb488, 2, none⟩) (Kd.R_far (p := ⟨gb488, 1, none⟩) (Kd.R_far (p := ⟨gb488, 0, none⟩) (Kd.R_types HO500.out BK488.out (by decide)) (fun _ hk => hk.2) (.int .i64 t491)) (fun _ hk => hk.2) (.slice Ao20 t492.length co20)) (fun _ hk => hk.2) (.slice Ao22 t495.length co22)) (fun _ hk => hk.2) (.slice Ao24 t498.length co24)) (fun _ hk => hk.2) (.slice Ao26 t501.length co26)) (fun _ hk => hk.1)⟩, ⟨by (with_reducible repeat (first | apply Kd.R_alloc | apply Kd.R_drewN | apply Kd.R_drew)); exact Kd.R_mono (Kd.R_far (p := ⟨gb488, 4, none⟩) (Kd.R_far (p := ⟨gb488, 3, none⟩) (Kd.R_far (p := ⟨gb488, 2, none⟩) (Kd.R_far (p := ⟨gb488, 1, none⟩) (Kd.R_far (p := ⟨gb488, 0, none⟩) (Kd.R_types HO503.out BK488.out (by decide)) (fun _ hk => hk.2) (.int .i64 t491)) (fun _ hk => hk.2) (.slice Ao20 t492.length co20)) (fun _ hk => hk.2) (.slice Ao22 t495.length co22)) (fun _ hk => hk.2) (.slice Ao24 t498.length co24)) (fun _ hk => hk.2) (.slice Ao26 t501.length co26)) (fun _ hk => hk.1)⟩, ⟨by (with_reducible repeat (first | refine zq6 ?_ _ | refine zq8 ?_ | refine zq7 ?_ _)); refine blk_put (cs := #[.int .i64 t491, .slice Ao20 t492.length co20, .slice Ao22 t495.length co22, .slice Ao24 t498.length co24, .slice (some ad490) x489004_1.length co13]) ?_ 4 _ rfl; (with_reducible repeat (first | refine zq6 ?_ _ | refine zq8 ?_ | refine zq7 ?_ _)); refine blk_put (cs := #[.int .i64 t491, .slice Ao20 t492.length co20, .slice Ao22 t495.length co22, .slice Ao17 x489003_1.length co17, .slice (some ad490) x489004_1.length co13]) ?_ 3 _ rfl; (with_reducible repeat (first | refine zq6 ?_ _ | refine zq8 ?_ | refine zq7 ?_ _)); refine blk_put (cs := #[.int .i64 t491, .slice Ao20 t492.length co20, .slice Ao16 x489002_1.length co16, .slice Ao17 x489003_1.length co17, .slice (some ad490) x489004_1.length co13]) ?_ 2 _ rfl; (with_reducible repeat (first | refine zq6 ?_ _ | refine zq8 ?_ | refine zq7 ?_ _)); refine blk_put (cs := #[.int .i64 t491, .slice Ao15 x489001_1.length co15, .slice Ao16 x489002_1.length co16, .slice Ao17 x489003_1.length co17, .slice (some ad490) x489004_1.length co13]) ?_ 1 _ rfl; (with_reducible repeat (first | refine zq6 ?_ _ | refine zq8 ?_ | refine zq7 ?_ _)); refine blk_put (cs := #[.int .i64 x489000_1, .slice Ao15 x489001_1.length co15, .slice Ao16 x489002_1.length co16, .slice Ao17 x489003_1.length co17, .slice (some ad490) x489004_1.length co13]) ?_ 0 _ rfl; (with_reducible repeat (first | refine zq6 ?_ _ | refine zq8 ?_ | refine zq7 ?_ _)); exact BK488.out⟩, ⟨by (with_reducible repeat (first | refine zq6 ?_ _ | refine zq8 ?_ | refine zq7 ?_ _)); refine blk_far ?_ NB489_488.out _; (with_reducible repeat (first | refine zq6 ?_ _ | refine zq8 ?_ | refine zq7 ?_ _)); refine blk_far ?_ NB489_488.out _; (with_reducible repeat (first | refine zq6 ?_ _ | refine zq8 ?_ | refine zq7 ?_ _)); refine blk_far ?_ NB489_488.out _; (with_reducible repeat (first | refine zq6 ?_ _ | refine zq8 ?_ | refine zq7 ?_ _)); refine blk_far ?_ NB489_488.out _; (with_reducible repeat (first | refine zq6 ?_ _ | refine zq8 ?_ | refine zq7 ?_ _)); refine blk_far ?_ NB489_488.out _; (with_reducible repeat (first | refine zq6 ?_ _ | refine zq8 ?_ | refine zq7 ?_ _)); exact BK489.out⟩, ⟨by repeat (first | (with_reducible first | exact HK.out | apply Kept.alloc | apply Kept.drewN | apply Kept.drew | refine Kept.setCell ?_ (.inr GW488.out) _ | refine Kept.setCell ?_ (.inr GW489.out) _) | exact HK.out)⟩, ⟨by repeat (first | (with_reducible first | exact HB.out | apply zq2 | apply zq1 | apply zqd | refine zq3 ?_ GE488.out | refine zq3 ?_ GE489.out) | exact HB.out)⟩⟩
    ·rw [if_neg c9] at H
     exact absurd H (by simp)
   ·rw [if_neg c8] at H
    have c8b0 : decide (x3_1 < (x489004_1.length : Int)) = false := decide_eq_false c8
    clear c8
    obtain ⟨y504, hy504⟩ : ∃ y_ : List (S54), y_ = (([] : List (S54))) := ⟨_, rfl⟩
    replace H : (some (x489000_1, x489001_1, x489002_1, x489003_1, y504)) = some (r1, r2, r3, r4, r5) := by first | (rw [hy504]; with_reducible exact H) | (have H2_ := (Option.bind_some _ _).symm.trans H; rw [hy504]; with_reducible exact H2_) | (have H2_ := (Option.bind_some _ _).symm.trans H; with_reducible exact H2_) | with_reducible exact H | (rw [hy504]; exact H) | exact H
    have Ny504 := Az.mk hy504
    clear hy504
    simp only [Option.some.injEq, Prod.mk.injEq] at H
    obtain ⟨rfl, rfl, rfl, rfl, rfl⟩ := H
    have hnb28 := NB488_489.out
    have hnc28 := NB489_488.out
    have hcz29_0 : wr.cell? ⟨gb488, 0, none⟩ = some (.int .i64 x489000_1) := (zq4 BK488.out 0).trans rfl
    have hcz29_1 : wr.cell? ⟨gb488, 1, none⟩ = some (u489001) := (zq4 BK488.out 1).trans rfl
    have hcz29_2 : wr.cell? ⟨gb488, 2, none⟩ = some (u489002) := (zq4 BK488.out 2).trans rfl
    have hcz29_3 : wr.cell? ⟨gb488, 3, none⟩ = some (u489003) := (zq4 BK488.out 3).trans rfl
    have hcz29_4 : wr.cell? ⟨gb488, 4, none⟩ = some (u489004) := (zq4 BK488.out 4).trans rfl
    have hfz29_0 := zq5 BK488.out 0
    have hfz29_1 := zq5 BK488.out 1
    have hfz29_2 := zq5 BK488.out 2
    have hfz29_3 := zq5 BK488.out 3
    have hfz29_4 := zq5 BK488.out 4
    obtain ⟨Ao30, co30, eo30⟩ := Kd.R_slice HO_489004.out
    subst eo30
    go_wp2_with (first | ((with_reducible refine zqg (N := 18) rfl ?_); refine Kd.R_lit k54 _ 54 ?hg (N := 18) ?hd (xs := ([] : List (S54))) (inner := []) (ok := fun _ => True) (okp := fun _ => True) ?hr ?hp (fun _ hk => hk) trivial (Below.refl _ _) (Nat.le_refl _) (by simp) ?_; (case hd => rfl); (case hg => rfl); (case hr => first | (go_simp; done) | (go_simp; rfl)); (case hp => exact (Reps.none _ _)); intro v505 w31 ho32 hb hg_ hnew_; clear hg_ hnew_; (first | rw [← Ny504.out] at ho32 | (simp only [Int.reduceToNat] at ho32; rw [← Ny504.out] at ho32)); have n0_ := Az.mk (Kd.R_below (by (with_reducible repeat (first | apply Kd.R_alloc | apply Kd.R_drewN | apply Kd.R_drew)); exact HO_489001.out) hb); have n1_ := Az.mk (Kd.R_below (by (with_reducible repeat (first | apply Kd.R_alloc | apply Kd.R_drewN | apply Kd.R_drew)); exact HO_489002.out) hb); have n2_ := Az.mk (Kd.R_below (by (with_reducible repeat (first | apply Kd.R_alloc | apply Kd.R_drewN | apply Kd.R_drew)); exact HO_489003.out) hb); have n3_ := Az.mk (Kd.R_elder' (by (with_reducible repeat (first | apply Kd.R_alloc | apply Kd.R_drewN | apply Kd.R_drew)); exact HO_489004.out) (Kd.R_base ho32) hb); have n4_ := Az.mk (Kd.R_lower (Kd.R_new' (Kd.R_newM (M := fun k_ => ((P0_1_ k_ ∨ P0_2_ k_ ∨ P0_3_ k_ ∨ P0_4_ k_) ∨ w.heap.size ≤ k_)) ho32 (by first | exact HK.out.1 | exact (show Kept w _ (fun k_ => P0_1_ k_ ∨ P0_2_ k_ ∨ P0_3_ k_ ∨ P0_4_ k_) from by repeat (first | (with_reducible first | exact HK.out | apply Kept.alloc | apply Kept.drewN | apply Kept.drew | refine Kept.setCell ?_ (.inr GW488.out) _ | refine Kept.setCell ?_ (.inr GW489.out) _) | exact HK.out)).1) (fun k_ h_ => .inr h_)) (Kd.R_lt (by (with_reducible repeat (first | apply Kd.R_alloc | apply Kd.R_drewN | apply Kd.R_drew)); exact HO_489004.out))) (below_size (by repeat (first | (with_reducible first | exact HB.out | apply zq2 | apply zq1 | apply zqd | refine zq3 ?_ GE488.out | refine zq3 ?_ GE489.out) | exact HB.out)))); have n5_ := Az.mk (blk_below (g := gb488) (o := .cells #[.int .i64 x489000_1, u489001, u489002, u489003, .slice Ao30 x489004_1.length co30] 28 (0, 0)) (by (with_reducible repeat (first | refine zq6 ?_ _ | refine zq8 ?_ | refine zq7 ?_ _)); exact BK488.out) hb); have n6_ := Az.mk (blk_below (g := gb489) (o := .cells #[.int .i64 0, .slice none 0 0, .slice none 0 0, .slice none 0 0, .slice none 0 0] 28 (0, 0)) (by (with_reducible repeat (first | refine zq6 ?_ _ | refine zq8 ?_ | refine zq7 ?_ _)); exact BK489.out) hb); have n7_ := Az.mk (Kept.below (S := (fun k_ => P0_1_ k_ ∨ P0_2_ k_ ∨ P0_3_ k_ ∨ P0_4_ k_)) (by repeat (first | (with_reducible first | exact HK.out | apply Kept.alloc | apply Kept.drewN | apply Kept.drew | refine Kept.setCell ?_ (.inr GW488.out) _ | refine Kept.setCell ?_ (.inr GW489.out) _) | exact HK.out)) hb); have n8_ := Az.mk (below_step (by repeat (first | (with_reducible first | exact HB.out | apply zq2 | apply zq1 | apply zqd | refine zq3 ?_ GE488.out | refine zq3 ?_ GE489.out) | exact HB.out)) hb); clear HO_489001; clear HO_489002; clear HO_489003; clear HO_489004; clear BK488; clear BK489; clear HK; clear HB; have HO_489001 := n0_; have HO_489002 := n1_; have HO_489003 := n2_; have HO_489004 := n3_; have HO506 := n4_; have BK488 := n5_; have BK489 := n6_; have HK := n7_; have HB := n8_; clear n0_ n1_ n2_ n3_ n4_ n5_ n6_ n7_ n8_; clear hb ho32; obtain ⟨Ao33, co33, eo33⟩ := Kd.R_slice HO506.out; subst eo33; have hcz34_0 : w31.cell? ⟨gb488, 0, none⟩ = some (.int .i64 x489000_1) := (zq4 BK488.out 0).trans rfl; have hcz34_1 : w31.cell? ⟨gb488, 1, none⟩ = some (u489001) := (zq4 BK488.out 1).trans rfl; have hcz34_2 : w31.cell? ⟨gb488, 2, none⟩ = some (u489002) := (zq4 BK488.out 2).trans rfl; have hcz34_3 : w31.cell? ⟨gb488, 3, none⟩ = some (u489003) := (zq4 BK488.out 3).trans rfl; have hcz34_4 : w31.cell? ⟨gb488, 4, none⟩ = some (.slice Ao30 x489004_1.length co30) := (zq4 BK488.out 4).trans rfl; have hfz34_0 := zq5 BK488.out 0; have hfz34_1 := zq5 BK488.out 1; have hfz34_2 := zq5 BK488.out 2; have hfz34_3 := zq5 BK488.out 3; have hfz34_4 := zq5 BK488.out 4; have hcz35_0 : w31.cell? ⟨gb489, 0, none⟩ = some (.int .i64 0) := (zq4 BK489.out 0).trans rfl; have hcz35_1 : w31.cell? ⟨gb489, 1, none⟩ = some (.slice none 0 0) := (zq4 BK489.out 1).trans rfl; have hcz35_2 : w31.cell? ⟨gb489, 2, none⟩ = some (.slice none 0 0) := (zq4 BK489.out 2).trans rfl; have hcz35_3 : w31.cell? ⟨gb489, 3, none⟩ = some (.slice none 0 0) := (zq4 BK489.out 3).trans rfl; have hcz35_4 : w31.cell? ⟨gb489, 4, none⟩ = some (.slice none 0 0) := (zq4 BK489.out 4).trans rfl; have hfz35_0 := zq5 BK489.out 0; have hfz35_1 := zq5 BK489.out 1; have hfz35_2 := zq5 BK489.out 2; have hfz35_3 := zq5 BK489.out 3; have hfz35_4 := zq5 BK489.out 4; obtain ⟨Ao36, co36, eo36⟩ := Kd.R_slice HO_489001.out; subst eo36; obtain ⟨Ao37, co37, eo37⟩ := Kd.R_slice HO_489002.out; subst eo37; obtain ⟨Ao38, co38, eo38⟩ := Kd.R_slice HO_489003.out; subst eo38))
    refine bodyPost_ret (results_cell_row rfl _ _ gb489 28 #[.int .i64 x489000_1, .slice Ao36 x489001_1.length co36, .slice Ao37 x489002_1.length co37, .slice Ao38 x489003_1.length co38, .slice Ao33 y504.length co33] (0, 0) _ rfl (by (with_reducible repeat (first | refine zq6 ?_ _ | refine zq8 ?_ | refine zq7 ?_ _)); refine blk_put (cs := #[.int .i64 x489000_1, .slice Ao36 x489001_1.length co36, .slice Ao37 x489002_1.length co37, .slice Ao38 x489003_1.length co38, .slice none 0 0]) ?_ 4 _ rfl; (with_reducible repeat (first | refine zq6 ?_ _ | refine zq8 ?_ | refine zq7 ?_ _)); refine blk_put (cs := #[.int .i64 x489000_1, .slice Ao36 x489001_1.length co36, .slice Ao37 x489002_1.length co37, .slice none 0 0, .slice none 0 0]) ?_ 3 _ rfl; (with_reducible repeat (first | refine zq6 ?_ _ | refine zq8 ?_ | refine zq7 ?_ _)); refine blk_put (cs := #[.int .i64 x489000_1, .slice Ao36 x489001_1.length co36, .slice none 0 0, .slice none 0 0, .slice none 0 0]) ?_ 2 _ rfl; (with_reducible repeat (first | refine zq6 ?_ _ | refine zq8 ?_ | refine zq7 ?_ _)); refine blk_put (cs := #[.int .i64 x489000_1, .slice none 0 0, .slice none 0 0, .slice none 0 0, .slice none 0 0]) ?_ 1 _ rfl; (with_reducible repeat (first | refine zq6 ?_ _ | refine zq8 ?_ | refine zq7 ?_ _)); refine blk_put (cs := #[.int .i64 0, .slice none 0 0, .slice none 0 0, .slice none 0 0, .slice none 0 0]) ?_ 0 _ rfl; (with_reducible repeat (first | refine zq6 ?_ _ | refine zq8 ?_ | refine zq7 ?_ _)); refine blk_far ?_ NB489_488.out _; (with_reducible repeat (first | refine zq6 ?_ _ | refine zq8 ?_ | refine zq7 ?_ _)); exact BK489.out) Try.underlying28 rfl (by kernel_rfl)) rfl ?_
    exact ⟨_, _, _, _, by first | rfl | (simp [errW_none, errW_some] <;> rfl) | (simp [*, errW_none, errW_some] <;> rfl), by (with_reducible repeat (first | apply Kd.R_alloc | apply Kd.R_drewN | apply Kd.R_drew)); exact Kd.R_mono (Kd.R_far (p := ⟨gb489, 4, none⟩) (Kd.R_far (p := ⟨gb489, 3, none⟩) (Kd.R_far (p := ⟨gb489, 2, none⟩) (Kd.R_far (p := ⟨gb489, 1, none⟩) (Kd.R_far (p := ⟨gb489, 0, none⟩) (Kd.R_far (p := ⟨gb488, 4, none⟩) (Kd.R_types (Kd.R_types HO_489001.out BK488.out (by decide)) BK489.out (by decide)) (fun _ hk => hk.1.2) (.slice Ao33 y504.length co33)) (fun _ hk => hk.2) (.int .i64 x489000_1)) (fun _ hk => hk.2) (.slice Ao36 x489001_1.length co36)) (fun _ hk => hk.2) (.slice Ao37 x489002_1.length co37)) (fun _ hk => hk.2) (.slice Ao38 x489003_1.length co38)) (fun _ hk => hk.2) (.slice Ao33 y504.length co33)) (fun _ hk => ⟨hk.1.1.1, hk.1.1.2⟩), by (with_reducible repeat (first | apply Kd.R_alloc | apply Kd.R_drewN | apply Kd.R_drew)); exact Kd.R_mono (Kd.R_far (p := ⟨gb489, 4, none⟩) (Kd.R_far (p := ⟨gb489, 3, none⟩) (Kd.R_far (p := ⟨gb489, 2, none⟩) (Kd.R_far (p := ⟨gb489, 1, none⟩) (Kd.R_far (p := ⟨gb489, 0, none⟩) (Kd.R_far (p := ⟨gb488, 4, none⟩) (Kd.R_types (Kd.R_types HO_489002.out BK488.out (by decide)) BK489.out (by decide)) (fun _ hk => hk.1.2) (.slice Ao33 y504.length co33)) (fun _ hk => hk.2) (.int .i64 x489000_1)) (fun _ hk => hk.2) (.slice Ao36 x489001_1.length co36)) (fun _ hk => hk.2) (.slice Ao37 x489002_1.length co37)) (fun _ hk => hk.2) (.slice Ao38 x489003_1.length co38)) (fun _ hk => hk.2) (.slice Ao33 y504.length co33)) (fun _ hk => ⟨hk.1.1.1, hk.1.1.2⟩), by (with_reducible repeat (first | apply Kd.R_alloc | apply Kd.R_drewN | apply Kd.R_drew)); exact Kd.R_mono (Kd.R_far (p := ⟨gb489, 4, none⟩) (Kd.R_far (p := ⟨gb489, 3, none⟩) (Kd.R_far (p := ⟨gb489, 2, none⟩) (Kd.R_far (p := ⟨gb489, 1, none⟩) (Kd.R_far (p := ⟨gb489, 0, none⟩) (Kd.R_far (p := ⟨gb488, 4, none⟩) (Kd.R_types (Kd.R_types HO_489003.out BK488.out (by decide)) BK489.out (by decide)) (fun _ hk => hk.1.2) (.slice Ao33 y504.length co33)) (fun _ hk => hk.2) (.int .i64 x489000_1)) (fun _ hk => hk.2) (.slice Ao36 x489001_1.length co36)) (fun _ hk => hk.2) (.slice Ao37 x489002_1.length co37)) (fun _ hk => hk.2) (.slice Ao38 x489003_1.length co38)) (fun _ hk => hk.2) (.slice Ao33 y504.length co33)) (fun _ hk => hk.1.1), by (with_reducible repeat (first | apply Kd.R_alloc | apply Kd.R_drewN | apply Kd.R_drew)); exact Kd.R_mono (Kd.R_far (p := ⟨gb489, 4, none⟩) (Kd.R_far (p := ⟨gb489, 3, none⟩) (Kd.R_far (p := ⟨gb489, 2, none⟩) (Kd.R_far (p := ⟨gb489, 1, none⟩) (Kd.R_far (p := ⟨gb489, 0, none⟩) (Kd.R_far (p := ⟨gb488, 4, none⟩) (Kd.R_types (Kd.R_types HO506.out BK488.out (by decide)) BK489.out (by decide)) (fun _ hk => hk.1.2) (.slice Ao33 y504.length co33)) (fun _ hk => hk.2) (.int .i64 x489000_1)) (fun _ hk => hk.2) (.slice Ao36 x489001_1.length co36)) (fun _ hk => hk.2) (.slice Ao37 x489002_1.length co37)) (fun _ hk => hk.2) (.slice Ao38 x489003_1.length co38)) (fun _ hk => hk.2) (.slice Ao33 y504.length co33)) (fun _ hk => hk.1.1.1.1), by repeat (first | (with_reducible first | exact HB.out | apply zq2 | apply zq1 | apply zqd | refine zq3 ?_ GE488.out | refine zq3 ?_ GE489.out) | exact HB.out), by repeat (first | (with_reducible first | exact HK.out | apply Kept.alloc | apply Kept.drewN | apply Kept.drew | refine Kept.setCell ?_ (.inr GW488.out) _ | refine Kept.setCell ?_ (.inr GW489.out) _) | exact HK.out)⟩
end Go.Proofs.Ytkgpnloghmbmlaa.Print
namespace Go.Proofs.Ytkgpnloghmbmlaa.Print
open Go.RowKit Go.Proofs.YtkgpnloghmbmlaaW.PrintWords Go.Proofs.YtkgpnloghmbmlaaW.PrintLast Go.Proofs.YtkgpnloghmbmlaaW.PrintMore
attribute [local go_sem] max2_int min2_int max_two min_two max_three min_three max_four min_four   -- for this text's walks alone
set_option linter.unusedVariables false
set_option linter.unusedSimpArgs false
end Go.Proofs.Ytkgpnloghmbmlaa.Print
namespace Go.Proofs.Ytkgpnloghmbmlaa.Print
open Go.RowKit Go.Proofs.YtkgpnloghmbmlaaW.PrintWords Go.Proofs.YtkgpnloghmbmlaaW.PrintLast Go.Proofs.YtkgpnloghmbmlaaW.PrintMore
attribute [local go_sem] max2_int min2_int max_two min_two max_three min_three max_four min_four   -- for this text's walks alone
set_option linter.unusedVariables false
set_option linter.unusedSimpArgs false
end Go.Proofs.Ytkgpnloghmbmlaa.Print
namespace Go.Proofs.Ytkgpnloghmbmlaa.Print
open Go.RowKit Go.Proofs.YtkgpnloghmbmlaaW.PrintWords Go.Proofs.YtkgpnloghmbmlaaW.PrintLast Go.Proofs.YtkgpnloghmbmlaaW.PrintMore
attribute [local go_sem] max2_int min2_int max_two min_two max_three min_three max_four min_four   -- for this text's walks alone
set_option linter.unusedVariables false
set_option linter.unusedSimpArgs false
end Go.Proofs.Ytkgpnloghmbmlaa.Print
namespace Go.Proofs.Ytkgpnloghmbmlaa.Print
open Go.RowKit Go.Proofs.YtkgpnloghmbmlaaW.PrintWords Go.Proofs.YtkgpnloghmbmlaaW.PrintLast Go.Proofs.YtkgpnloghmbmlaaW.PrintMore Go.Proofs.Ytkgpnloghmbmlaa.Drv
set_option linter.unusedVariables false
set_option linter.unusedSimpArgs false
set_option maxHeartbeats 4000000 in
theorem flushFn (g : Nat) (st : Int) (sp : List Bool) (sl rg : List ByteArray) (ns : List (Nat × Pt)) (w : World) (hD : Drv w g st sp sl rg ns) (hp : ∀ x ∈ ns, putB x.2 = true) :
    Calls Try.prog 77 #[.pointer (some ⟨g, 0, none⟩)] w fun e w' => e = .returned (.bool true) ∧ Drv w' g st (comeAll (ns.map (·.2)) (sp, sl, rg)).1 (comeAll (ns.map (·.2)) (sp, sl, rg)).2.1 (comeAll (ns.map (·.2)) (sp, sl, rg)).2.2 [] ∧ Below g w w' := by
  have HF := Az.mk (flush_calls g st sp sl rg ns w hD hp)
  clear hD hp
  go_enter Try.func77, Try.ntmps77
  go_wp2_with (first | (go_at_call 78; refine HF.out.mono ?_; rintro e w9 ⟨rfl, hd, hb, hk⟩; have HD := Az.mk hd; have HB := Az.mk hb; clear hd hb hk))
  go_ret
  exact ⟨rfl, (by (with_reducible repeat (first | refine drv_drewN ?_ _ | refine drv_drew ?_)); exact HD.out), (by repeat (first | (with_reducible first | exact HB.out | apply zq1 | apply zqd) | exact HB.out))⟩
def impl_DiskFlush.f (a0_0 : Int) (l0_1 l0_2 : List ByteArray) (l0_3 : List Bool) (l0_4 : List S54) : Option (Int × List ByteArray × List ByteArray × List Bool × List S54) :=
  if Good a0_0 l0_1 l0_2 l0_3 l0_4 then some (a0_0, (comeAll l0_4 (l0_3, l0_1, l0_2)).2.1, (comeAll l0_4 (l0_3, l0_1, l0_2)).2.2, (comeAll l0_4 (l0_3, l0_1, l0_2)).1, []) else some (0, [], [], [], [])
set_option maxHeartbeats 4000000 in
set_option maxRecDepth 100000 in
theorem impl_DiskFlush.calls (a0_0 : Int) (A0_1 : Option Addr) (c0_1 : Nat) (l0_1 : List ByteArray) (A0_2 : Option Addr) (c0_2 : Nat) (l0_2 : List ByteArray) (A0_3 : Option Addr) (c0_3 : Nat) (l0_3 : List Bool) (A0_4 : Option Addr) (c0_4 : Nat) (l0_4 : List (S54)) (r1 : Int) (r2 : List ByteArray) (r3 : List ByteArray) (r4 : List Bool) (r5 : List (S54)) (w : World) (hr0_1 : Kd.C Kd.string w A0_1 l0_1.length l0_1) (hc0_1 : l0_1.length ≤ c0_1) (hr0_2 : Kd.C Kd.string w A0_2 l0_2.length l0_2) (hc0_2 : l0_2.length ≤ c0_2) (hr0_3 : Kd.C Kd.bool w A0_3 l0_3.length l0_3) (hc0_3 : l0_3.length ≤ c0_3) (hr0_4 : Kd.C k54 w A0_4 l0_4.length l0_4) (hc0_4 : l0_4.length ≤ c0_4) (h : impl_DiskFlush.f a0_0 l0_1 l0_2 l0_3 l0_4 = some (r1, r2, r3, r4, r5)) :
    Calls Try.prog 35 #[.agg #[.int .i64 a0_0, .slice A0_1 l0_1.length c0_1, .slice A0_2 l0_2.length c0_2, .slice A0_3 l0_3.length c0_3, .slice A0_4 l0_4.length c0_4]] w fun e w' => ∃ v1_ v2_ v3_ v4_ : Value, e = .returned (.agg #[.int .i64 r1, v1_, v2_, v3_, v4_]) ∧ Kd.R Kd.string 9 w' w.heap.size (fun k_ => some k_ ≠ (v2_ : Value).ownBlock) v1_ r2 ∧ Kd.R Kd.string 9 w' w.heap.size (fun k_ => some k_ ≠ (v1_ : Value).ownBlock) v2_ r3 ∧ Kd.R Kd.bool 4 w' w.heap.size (fun _ => True) v3_ r4 ∧ Kd.R k54 54 w' w.heap.size (fun _ => True) v4_ r5 ∧ Below w.heap.size w w' := by
  have key : ∀ (W : World), Below w.heap.size w W → Calls Try.prog 76 #[.agg #[.int .i64 a0_0, .slice A0_1 l0_1.length c0_1, .slice A0_2 l0_2.length c0_2, .slice A0_3 l0_3.length c0_3, .slice A0_4 l0_4.length c0_4], .func (.func 77) #[] #[]] W fun e w' => ∃ v1_ v2_ v3_ v4_ : Value, e = .returned (.agg #[.int .i64 r1, v1_, v2_, v3_, v4_]) ∧ Kd.R Kd.string 9 w' W.heap.size (fun k_ => some k_ ≠ (v2_ : Value).ownBlock) v1_ r2 ∧ Kd.R Kd.string 9 w' W.heap.size (fun k_ => some k_ ≠ (v1_ : Value).ownBlock) v2_ r3 ∧ Kd.R Kd.bool 4 w' W.heap.size (fun _ => True) v3_ r4 ∧ Kd.R k54 54 w' W.heap.size (fun _ => True) v4_ r5 ∧ Below W.heap.size W w' := fun W hb => by
    by_cases hg : Good a0_0 l0_1 l0_2 l0_3 l0_4
    · rw [impl_DiskFlush.f, if_pos hg] at h
      simp only [Option.some.injEq, Prod.mk.injEq] at h
      obtain ⟨rfl, rfl, rfl, rfl, rfl⟩ := h
      refine changed_flush a0_0 A0_1 c0_1 l0_1 A0_2 c0_2 l0_2 A0_3 c0_3 l0_3 A0_4 c0_4 l0_4 W (Kd.C_below hr0_1 hb) hc0_1 (Kd.C_below hr0_2 hb) hc0_2 (Kd.C_below hr0_3 hb) hc0_3 (Kd.C_below hr0_4 hb) hc0_4 hg _ _ _ [] (by simp) (fun W2 _ g ns hD hns _ => ?_)
      have hp : ∀ x ∈ ns, putB x.2 = true := fun x hx => by
        have h1 := hg.wa
        rw [List.any_eq_false] at h1
        have h2 := h1 x.2 (by rw [← hns]; exact List.mem_map_of_mem hx)
        simpa using h2
      refine (flushFn g a0_0 l0_3 l0_1 l0_2 ns W2 hD hp).mono fun e w' hh => ⟨[], hh.1, ?_, rfl, hh.2.2⟩
      have := hh.2.1
      rw [hns] at this
      exact this
    · rw [impl_DiskFlush.f, if_neg hg] at h
      simp only [Option.some.injEq, Prod.mk.injEq] at h
      obtain ⟨rfl, rfl, rfl, rfl, rfl⟩ := h
      exact changed_bad a0_0 A0_1 c0_1 l0_1 A0_2 c0_2 l0_2 A0_3 c0_3 l0_3 A0_4 c0_4 l0_4 _ W (Kd.C_below hr0_1 hb) hc0_1 (Kd.C_below hr0_2 hb) hc0_2 (Kd.C_below hr0_3 hb) hc0_3 (Kd.C_below hr0_4 hb) hc0_4 hg
  have HK := Az.mk key
  have HB := Az.mk (Below.refl w.heap.size w)
  clear hr0_1 hc0_1 hr0_2 hc0_2 hr0_3 hc0_3 hr0_4 hc0_4 h key
  have hu28 := Try.underlying28
  go_enter Try.func35, Try.ntmps35
  go_wp2_with (first | ((with_reducible refine zqg (N := 1) rfl ?_); refine zqb ?hg (N := 1) ?hd (cs := #[.int .i64 a0_0, .slice A0_1 l0_1.length c0_1, .slice A0_2 l0_2.length c0_2, .slice A0_3 l0_3.length c0_3, .slice A0_4 l0_4.length c0_4]) (t := 28) ?hr ?_; (case hd => rfl); (case hg => rfl); (case hr => first | (go_simp; done) | (go_simp; rfl)); intro gb hg w1 hbox hb; have n0_ := Az.mk (below_step (by repeat (first | (with_reducible first | exact HB.out | apply zq2 | apply zq1 | apply zqd) | exact HB.out)) hb); have BD := Az.mk hbox; clear HB; have HB := n0_; clear n0_ hb hbox hg; have hcd_0 : w1.cell? ⟨gb, 0, none⟩ = some (.int .i64 a0_0) := (zq4 BD.out 0).trans rfl; have hcd_1 : w1.cell? ⟨gb, 1, none⟩ = some (.slice A0_1 l0_1.length c0_1) := (zq4 BD.out 1).trans rfl; have hcd_2 : w1.cell? ⟨gb, 2, none⟩ = some (.slice A0_2 l0_2.length c0_2) := (zq4 BD.out 2).trans rfl; have hcd_3 : w1.cell? ⟨gb, 3, none⟩ = some (.slice A0_3 l0_3.length c0_3) := (zq4 BD.out 3).trans rfl; have hcd_4 : w1.cell? ⟨gb, 4, none⟩ = some (.slice A0_4 l0_4.length c0_4) := (zq4 BD.out 4).trans rfl) | ((with_reducible refine zqg (N := 2) rfl ?_); refine zqb ?hg (N := 2) ?hd (cs := #[.int .i64 0, .slice none 0 0, .slice none 0 0, .slice none 0 0, .slice none 0 0]) (t := 28) ?hr ?_; (case hd => rfl); (case hg => rfl); (case hr => first | (go_simp; done) | (go_simp; rfl)); intro gr hg w2 hbox hb; have n0_ := Az.mk (below_step (by repeat (first | (with_reducible first | exact HB.out | apply zq2 | apply zq1 | apply zqd) | exact HB.out)) hb); have BK := Az.mk hbox; have HGR : Az (w.heap.size ≤ gr) := ⟨by rw [hg]; exact (below_size (by repeat (first | (with_reducible first | exact HB.out | apply zq2 | apply zq1 | apply zqd) | exact HB.out)))⟩; have nd_ := Az.mk (blk_below (g := gb) (o := .cells #[.int .i64 a0_0, .slice A0_1 l0_1.length c0_1, .slice A0_2 l0_2.length c0_2, .slice A0_3 l0_3.length c0_3, .slice A0_4 l0_4.length c0_4] 28 (0, 0)) (by (with_reducible repeat (first | refine zq6 ?_ _ | refine zq8 ?_ | refine zq7 ?_ _)); exact BD.out) hb); clear HB BD; have HB := n0_; have BD := nd_; clear n0_ nd_ hb hbox hg; have hcd_0 : w2.cell? ⟨gb, 0, none⟩ = some (.int .i64 a0_0) := (zq4 BD.out 0).trans rfl; have hcd_1 : w2.cell? ⟨gb, 1, none⟩ = some (.slice A0_1 l0_1.length c0_1) := (zq4 BD.out 1).trans rfl; have hcd_2 : w2.cell? ⟨gb, 2, none⟩ = some (.slice A0_2 l0_2.length c0_2) := (zq4 BD.out 2).trans rfl; have hcd_3 : w2.cell? ⟨gb, 3, none⟩ = some (.slice A0_3 l0_3.length c0_3) := (zq4 BD.out 3).trans rfl; have hcd_4 : w2.cell? ⟨gb, 4, none⟩ = some (.slice A0_4 l0_4.length c0_4) := (zq4 BD.out 4).trans rfl) | (go_at_call 76; refine (HK.out _ (by repeat (first | (with_reducible first | exact HB.out | apply zq2 | apply zq1 | apply zqd) | exact HB.out))).mono ?_; rintro e w12 ⟨v1, v2, v3, v4, rfl, ho1, ho2, ho3, ho4, hb⟩; obtain ⟨A1, c1, rfl⟩ := Kd.R_slice ho1; obtain ⟨A2, c2, rfl⟩ := Kd.R_slice ho2; obtain ⟨A3, c3, rfl⟩ := Kd.R_slice ho3; obtain ⟨A4, c4, rfl⟩ := Kd.R_slice ho4; have n0_ := Az.mk (below_step (by repeat (first | (with_reducible first | exact HB.out | apply zq2 | apply zq1 | apply zqd) | exact HB.out)) hb); have n1_ := Az.mk (blk_below (g := gr) (o := .cells #[.int .i64 0, .slice none 0 0, .slice none 0 0, .slice none 0 0, .slice none 0 0] 28 (0, 0)) (by (with_reducible repeat (first | refine zq6 ?_ _ | refine zq8 ?_ | refine zq7 ?_ _)); exact BK.out) hb); have HG5 : Az (gr < _) := ⟨blk_lt (by (with_reducible repeat (first | refine zq6 ?_ _ | refine zq8 ?_ | refine zq7 ?_ _)); exact BK.out)⟩; have HS5 : Az (w.heap.size ≤ _) := ⟨below_size (by repeat (first | (with_reducible first | exact HB.out | apply zq2 | apply zq1 | apply zqd) | exact HB.out))⟩; have HO1 := Az.mk ho1; have HO2 := Az.mk ho2; have HO3 := Az.mk ho3; have HO4 := Az.mk ho4; clear HB BK; have HB := n0_; have BK := n1_; clear n0_ n1_ ho1 ho2 ho3 ho4 hb; have hcz_0 : w12.cell? ⟨gr, 0, none⟩ = some (.int .i64 0) := (zq4 BK.out 0).trans rfl; have hcz_1 : w12.cell? ⟨gr, 1, none⟩ = some (.slice none 0 0) := (zq4 BK.out 1).trans rfl; have hcz_2 : w12.cell? ⟨gr, 2, none⟩ = some (.slice none 0 0) := (zq4 BK.out 2).trans rfl; have hcz_3 : w12.cell? ⟨gr, 3, none⟩ = some (.slice none 0 0) := (zq4 BK.out 3).trans rfl; have hcz_4 : w12.cell? ⟨gr, 4, none⟩ = some (.slice none 0 0) := (zq4 BK.out 4).trans rfl; have hfz_0 := zq5 BK.out 0; have hfz_1 := zq5 BK.out 1; have hfz_2 := zq5 BK.out 2; have hfz_3 := zq5 BK.out 3; have hfz_4 := zq5 BK.out 4))
  have hset : ∀ {W : World} (h : Below w.heap.size w W) (j : Nat) (u : Value), Below w.heap.size w (W.setCell ⟨gr, j, none⟩ u) := fun h j u => zq3 h HGR.out
  refine bodyPost_ret (results_cell_row rfl _ _ gr 28 #[.int .i64 r1, .slice A1 r2.length c1, .slice A2 r3.length c2, .slice A3 r4.length c3, .slice A4 r5.length c4] (0, 0) _ rfl (by
    refine blk_put (cs := #[.int .i64 r1, .slice A1 r2.length c1, .slice A2 r3.length c2, .slice A3 r4.length c3, .slice none 0 0]) ?_ 4 _ rfl
    refine blk_put (cs := #[.int .i64 r1, .slice A1 r2.length c1, .slice A2 r3.length c2, .slice none 0 0, .slice none 0 0]) ?_ 3 _ rfl
    refine blk_put (cs := #[.int .i64 r1, .slice A1 r2.length c1, .slice none 0 0, .slice none 0 0, .slice none 0 0]) ?_ 2 _ rfl
    refine blk_put (cs := #[.int .i64 r1, .slice none 0 0, .slice none 0 0, .slice none 0 0, .slice none 0 0]) ?_ 1 _ rfl
    refine blk_put (cs := #[.int .i64 0, .slice none 0 0, .slice none 0 0, .slice none 0 0, .slice none 0 0]) ?_ 0 _ rfl
    exact BK.out) Try.underlying28 rfl (by kernel_rfl)) rfl ?_
  exact ⟨_, _, _, _, rfl, Kd.R_lower (R_setOwn (R_setOwn (R_setOwn (R_setOwn (R_setOwn HO1.out HG5.out 0 _) HG5.out 1 _) HG5.out 2 _) HG5.out 3 _) HG5.out 4 _) HS5.out,
    Kd.R_lower (R_setOwn (R_setOwn (R_setOwn (R_setOwn (R_setOwn HO2.out HG5.out 0 _) HG5.out 1 _) HG5.out 2 _) HG5.out 3 _) HG5.out 4 _) HS5.out,
    Kd.R_lower (R_setOwn (R_setOwn (R_setOwn (R_setOwn (R_setOwn HO3.out HG5.out 0 _) HG5.out 1 _) HG5.out 2 _) HG5.out 3 _) HG5.out 4 _) HS5.out,
    Kd.R_lower (R_setOwn (R_setOwn (R_setOwn (R_setOwn (R_setOwn HO4.out HG5.out 0 _) HG5.out 1 _) HG5.out 2 _) HG5.out 3 _) HG5.out 4 _) HS5.out,
    hset (hset (hset (hset (hset HB.out 0 _) 1 _) 2 _) 3 _) 4 _⟩
end Go.Proofs.Ytkgpnloghmbmlaa.Print
namespace Go.Proofs.Ytkgpnloghmbmlaa.Print
open Go.RowKit Go.Proofs.YtkgpnloghmbmlaaW.PrintWords Go.Proofs.YtkgpnloghmbmlaaW.PrintLast Go.Proofs.YtkgpnloghmbmlaaW.PrintMore Go.Proofs.Ytkgpnloghmbmlaa.Drv
set_option linter.unusedVariables false
set_option linter.unusedSimpArgs false
def putF (st : Int) (sp : List Bool) (sl rg : List ByteArray) (ws : List S54) (p : S54) : List Bool × List ByteArray × List ByteArray × List S54 :=
  if st = 1 then (sp, sl, rg, ws) else if ws.length = 40 then ((comeAll ws (sp, sl, rg)).1, (comeAll ws (sp, sl, rg)).2.1, (comeAll ws (sp, sl, rg)).2.2, [p]) else (sp, sl, rg, ws ++ [p])
theorem put_calls (g : Nat) (st : Int) (sp : List Bool) (sl rg : List ByteArray) (ns : List (Nat × Pt)) (p : S54) (w : World) (hD : Drv w g st sp sl rg ns) (hn : ns.length ≤ 40) (hp : ∀ x ∈ ns, putB x.2 = true) :
    Calls Try.prog 84 #[.pointer (some ⟨g, 0, none⟩), .agg #[.bool p.f0, .int .i64 p.f1, .string p.f2]] w fun e w' => e = .returned (.tuple #[]) ∧ (∃ ns2, Drv w' g st (putF st sp sl rg (ns.map (·.2)) p).1 (putF st sp sl rg (ns.map (·.2)) p).2.1 (putF st sp sl rg (ns.map (·.2)) p).2.2.1 ns2 ∧ ns2.map (·.2) = (putF st sp sl rg (ns.map (·.2)) p).2.2.2) ∧ Below g w w' := by
  by_cases h1 : st = 1
  · refine (put_gone g st sp sl rg ns p w hD h1).mono fun e w' h => ⟨h.1, ⟨ns, ?_, ?_⟩, h.2.2⟩
    · simp only [putF, if_pos h1]; exact h.2.1
    · simp only [putF, if_pos h1]
  · by_cases h2 : ns.length = 40
    · have h2' : (ns.map (·.2)).length = 40 := by rw [List.length_map]; exact h2
      refine (put_full g st sp sl rg ns p w hD h1 h2 hp _ _ _ rfl).mono fun e w' h => ⟨h.1, ?_, h.2.2⟩
      obtain ⟨n, hd⟩ := h.2.1
      refine ⟨[(n, p)], ?_, ?_⟩
      · simp only [putF, if_neg h1, if_pos h2']; exact hd
      · simp only [putF, if_neg h1, if_pos h2']; rfl
    · have h2' : ¬ (ns.map (·.2)).length = 40 := by rw [List.length_map]; exact h2
      refine (put_some g st sp sl rg ns p w hD h1 (by omega)).mono fun e w' h => ⟨h.1, ?_, h.2.2⟩
      obtain ⟨n, hd⟩ := h.2.1
      refine ⟨ns ++ [(n, p)], ?_, ?_⟩
      · simp only [putF, if_neg h1, if_neg h2']; exact hd
      · simp only [putF, if_neg h1, if_neg h2', List.map_append]; rfl
set_option maxHeartbeats 4000000 in
theorem putFn_no (g gp : Nat) (p : S54) (w : World) (hg : g ≤ w.heap.size) (hb : w.heap[gp]? = some (.cells #[.bool p.f0, .int .i64 p.f1, .string p.f2] 54 (0, 0))) (hp : putB p = false) :
    Calls Try.prog 82 #[.pointer (some ⟨g, 0, none⟩), .pointer (some ⟨gp, 0, none⟩)] w fun e w' => e = .returned (.bool false) ∧ Below g w w' := by
  have hu54 := Try.underlying54
  have HP : Az (impl_putOk.f p.f0 p.f1 p.f2 = some false) := ⟨by rw [putB_eq, hp]⟩
  have HG := Az.mk hg
  have hc_0 : w.cell? ⟨gp, 0, none⟩ = some (.bool p.f0) := (zq4 hb 0).trans rfl
  have hc_1 : w.cell? ⟨gp, 1, none⟩ = some (.int .i64 p.f1) := (zq4 hb 1).trans rfl
  have hc_2 : w.cell? ⟨gp, 2, none⟩ = some (.string p.f2) := (zq4 hb 2).trans rfl
  clear hg hb hp
  have HB := Az.mk (Below.refl g w)
  go_enter Try.func82, Try.ntmps82
  go_wp2_with (first | (go_at_call 83; refine (impl_putOk.calls _ _ _ _ _ HP.out).mono ?_; rintro e w9 ⟨rfl, hb⟩; have n0_ := Az.mk (below_glue (by repeat (first | (with_reducible first | exact HB.out | apply zq1 | apply zqd) | exact HB.out)) HG.out hb); clear HB; have HB := n0_; clear n0_ hb))
  go_ret
  exact ⟨rfl, (by repeat (first | (with_reducible first | exact HB.out | apply zq1 | apply zqd) | exact HB.out))⟩
set_option maxHeartbeats 4000000 in
theorem putFn (g gp : Nat) (st : Int) (sp : List Bool) (sl rg : List ByteArray) (ns : List (Nat × Pt)) (p : S54) (w : World) (hD : Drv w g st sp sl rg ns) (hn : ns.length ≤ 40) (hq : ∀ x ∈ ns, putB x.2 = true) (hb : w.heap[gp]? = some (.cells #[.bool p.f0, .int .i64 p.f1, .string p.f2] 54 (0, 0))) (hp : putB p = true) :
    Calls Try.prog 82 #[.pointer (some ⟨g, 0, none⟩), .pointer (some ⟨gp, 0, none⟩)] w fun e w' => e = .returned (.bool true) ∧ (∃ ns2, Drv w' g st (putF st sp sl rg (ns.map (·.2)) p).1 (putF st sp sl rg (ns.map (·.2)) p).2.1 (putF st sp sl rg (ns.map (·.2)) p).2.2.1 ns2 ∧ ns2.map (·.2) = (putF st sp sl rg (ns.map (·.2)) p).2.2.2) ∧ Below g w w' := by
  have hu54 := Try.underlying54
  have HP : Az (impl_putOk.f p.f0 p.f1 p.f2 = some true) := ⟨by rw [putB_eq, hp]⟩
  have HG := Az.mk (Nat.le_of_lt (blk_lt hD.blk))
  have HD := Az.mk hD
  have HPU := Az.mk (fun (W : World) (h : Drv W g st sp sl rg ns) => put_calls g st sp sl rg ns p W h hn hq)
  have hc_0 : w.cell? ⟨gp, 0, none⟩ = some (.bool p.f0) := (zq4 hb 0).trans rfl
  have hc_1 : w.cell? ⟨gp, 1, none⟩ = some (.int .i64 p.f1) := (zq4 hb 1).trans rfl
  have hc_2 : w.cell? ⟨gp, 2, none⟩ = some (.string p.f2) := (zq4 hb 2).trans rfl
  have BK := Az.mk hb
  clear hD hb hp hn hq
  have HB := Az.mk (Below.refl g w)
  go_enter Try.func82, Try.ntmps82
  go_wp2_with (first | (go_at_call 83; refine (impl_putOk.calls _ _ _ _ _ HP.out).mono ?_; rintro e w9 ⟨rfl, hb⟩; have n0_ := Az.mk (below_glue (by repeat (first | (with_reducible first | exact HB.out | apply zq1 | apply zqd) | exact HB.out)) HG.out hb); have nd_ := Az.mk (Drv.below (g := g) (st := st) (sp := sp) (sl := sl) (rg := rg) (ns := ns) (by (with_reducible repeat (first | refine drv_drewN ?_ _ | refine drv_drew ?_)); exact HD.out) hb); have nk_ := Az.mk (blk_below (g := gp) (o := .cells #[.bool p.f0, .int .i64 p.f1, .string p.f2] 54 (0, 0)) (by (with_reducible repeat (first | refine zq6 ?_ _ | refine zq8 ?_ | refine zq7 ?_ _)); exact BK.out) hb); clear HB HD BK; have HB := n0_; have HD := nd_; have BK := nk_; clear n0_ nd_ nk_ hb; have hd_0 : w9.cell? ⟨gp, 0, none⟩ = some (.bool p.f0) := (zq4 BK.out 0).trans rfl; have hd_1 : w9.cell? ⟨gp, 1, none⟩ = some (.int .i64 p.f1) := (zq4 BK.out 1).trans rfl; have hd_2 : w9.cell? ⟨gp, 2, none⟩ = some (.string p.f2) := (zq4 BK.out 2).trans rfl) | (go_at_call 84; refine (HPU.out _ (by (with_reducible repeat (first | refine drv_drewN ?_ _ | refine drv_drew ?_)); exact HD.out)).mono ?_; rintro e w10 ⟨rfl, hd, hb⟩; have n0_ := Az.mk (Below.trans (by repeat (first | (with_reducible first | exact HB.out | apply zq1 | apply zqd) | exact HB.out)) hb); have HE := Az.mk hd; clear HB hb hd; have HB := n0_; clear n0_))
  go_ret
  refine ⟨rfl, ?_, (by repeat (first | (with_reducible first | exact HB.out | apply zq1 | apply zqd) | exact HB.out))⟩
  obtain ⟨ns2, h1, h2⟩ := HE.out
  exact ⟨ns2, (by (with_reducible repeat (first | refine drv_drewN ?_ _ | refine drv_drew ?_)); exact h1), h2⟩
def impl_DiskPut.f (a0_0 : Int) (l0_1 l0_2 : List ByteArray) (l0_3 : List Bool) (l0_4 : List S54) (a1_0 : Bool) (a1_1 : Int) (a1_2 : ByteArray) : Option (Int × List ByteArray × List ByteArray × List Bool × List S54) :=
  if Good a0_0 l0_1 l0_2 l0_3 l0_4 ∧ putB ⟨a1_0, a1_1, a1_2⟩ = true then some (a0_0, (putF a0_0 l0_3 l0_1 l0_2 l0_4 ⟨a1_0, a1_1, a1_2⟩).2.1, (putF a0_0 l0_3 l0_1 l0_2 l0_4 ⟨a1_0, a1_1, a1_2⟩).2.2.1, (putF a0_0 l0_3 l0_1 l0_2 l0_4 ⟨a1_0, a1_1, a1_2⟩).1, (putF a0_0 l0_3 l0_1 l0_2 l0_4 ⟨a1_0, a1_1, a1_2⟩).2.2.2) else some (0, [], [], [], [])
theorem putF_len {st : Int} {sp : List Bool} {sl rg : List ByteArray} {ws : List S54} {p : S54} (h : ws.length ≤ 40) : (putF st sp sl rg ws p).2.2.2.length ≤ 40 := by
  unfold putF
  split
  · exact h
  · split
    · simp
    · simp only [List.length_append, List.length_cons, List.length_nil]
      omega
set_option maxHeartbeats 4000000 in
set_option maxRecDepth 100000 in
theorem impl_DiskPut.calls (a0_0 : Int) (A0_1 : Option Addr) (c0_1 : Nat) (l0_1 : List ByteArray) (A0_2 : Option Addr) (c0_2 : Nat) (l0_2 : List ByteArray) (A0_3 : Option Addr) (c0_3 : Nat) (l0_3 : List Bool) (A0_4 : Option Addr) (c0_4 : Nat) (l0_4 : List (S54)) (a1_0 : Bool) (a1_1 : Int) (a1_2 : ByteArray) (r1 : Int) (r2 : List ByteArray) (r3 : List ByteArray) (r4 : List Bool) (r5 : List (S54)) (w : World) (hr0_1 : Kd.C Kd.string w A0_1 l0_1.length l0_1) (hc0_1 : l0_1.length ≤ c0_1) (hr0_2 : Kd.C Kd.string w A0_2 l0_2.length l0_2) (hc0_2 : l0_2.length ≤ c0_2) (hr0_3 : Kd.C Kd.bool w A0_3 l0_3.length l0_3) (hc0_3 : l0_3.length ≤ c0_3) (hr0_4 : Kd.C k54 w A0_4 l0_4.length l0_4) (hc0_4 : l0_4.length ≤ c0_4) (h : impl_DiskPut.f a0_0 l0_1 l0_2 l0_3 l0_4 a1_0 a1_1 a1_2 = some (r1, r2, r3, r4, r5)) :
    Calls Try.prog 38 #[.agg #[.int .i64 a0_0, .slice A0_1 l0_1.length c0_1, .slice A0_2 l0_2.length c0_2, .slice A0_3 l0_3.length c0_3, .slice A0_4 l0_4.length c0_4], .agg #[.bool a1_0, .int .i64 a1_1, .string a1_2]] w fun e w' => ∃ v1_ v2_ v3_ v4_ : Value, e = .returned (.agg #[.int .i64 r1, v1_, v2_, v3_, v4_]) ∧ Kd.R Kd.string 9 w' w.heap.size (fun k_ => some k_ ≠ (v2_ : Value).ownBlock) v1_ r2 ∧ Kd.R Kd.string 9 w' w.heap.size (fun k_ => some k_ ≠ (v1_ : Value).ownBlock) v2_ r3 ∧ Kd.R Kd.bool 4 w' w.heap.size (fun _ => True) v3_ r4 ∧ Kd.R k54 54 w' w.heap.size (fun _ => True) v4_ r5 ∧ Below w.heap.size w w' := by
  have key : ∀ (W : World), Below w.heap.size w W → ∀ gp : Nat, W.heap[gp]? = some (.cells #[.bool a1_0, .int .i64 a1_1, .string a1_2] 54 (0, 0)) → Calls Try.prog 76 #[.agg #[.int .i64 a0_0, .slice A0_1 l0_1.length c0_1, .slice A0_2 l0_2.length c0_2, .slice A0_3 l0_3.length c0_3, .slice A0_4 l0_4.length c0_4], .func (.func 82) #[] #[.pointer (some ⟨gp, 0, none⟩)]] W fun e w' => ∃ v1_ v2_ v3_ v4_ : Value, e = .returned (.agg #[.int .i64 r1, v1_, v2_, v3_, v4_]) ∧ Kd.R Kd.string 9 w' W.heap.size (fun k_ => some k_ ≠ (v2_ : Value).ownBlock) v1_ r2 ∧ Kd.R Kd.string 9 w' W.heap.size (fun k_ => some k_ ≠ (v1_ : Value).ownBlock) v2_ r3 ∧ Kd.R Kd.bool 4 w' W.heap.size (fun _ => True) v3_ r4 ∧ Kd.R k54 54 w' W.heap.size (fun _ => True) v4_ r5 ∧ Below W.heap.size W w' := fun W hb gp hgp => by
    by_cases hg : Good a0_0 l0_1 l0_2 l0_3 l0_4
    · have hq : ∀ (ns : List (Nat × Pt)), ns.map (·.2) = l0_4 → ∀ x ∈ ns, putB x.2 = true := fun ns hns x hx => by
        have h1 := hg.wa
        rw [List.any_eq_false] at h1
        have h2 := h1 x.2 (by rw [← hns]; exact List.mem_map_of_mem hx)
        simpa using h2
      by_cases hp : putB ⟨a1_0, a1_1, a1_2⟩ = true
      · rw [impl_DiskPut.f, if_pos ⟨hg, hp⟩] at h
        simp only [Option.some.injEq, Prod.mk.injEq] at h
        obtain ⟨rfl, rfl, rfl, rfl, rfl⟩ := h
        refine changed_put a0_0 A0_1 c0_1 l0_1 A0_2 c0_2 l0_2 A0_3 c0_3 l0_3 A0_4 c0_4 l0_4 (.pointer (some ⟨gp, 0, none⟩)) W (Kd.C_below hr0_1 hb) hc0_1 (Kd.C_below hr0_2 hb) hc0_2 (Kd.C_below hr0_3 hb) hc0_3 (Kd.C_below hr0_4 hb) hc0_4 hg _ _ _ _ (putF_len hg.sh.2.2.2.2) (fun W2 hb2 g ns hD hns _ => ?_)
        have hl : ns.length ≤ 40 := by
          have h1 := congrArg List.length hns
          rw [List.length_map] at h1
          have h2 := hg.sh.2.2.2.2
          omega
        refine (putFn g gp a0_0 l0_3 l0_1 l0_2 ns ⟨a1_0, a1_1, a1_2⟩ W2 hD hl (hq ns hns) ((hb2.block gp (blk_lt hgp)).trans hgp) hp).mono fun e w' hh => ?_
        obtain ⟨h1, ⟨ns2, h2, h3⟩, h4⟩ := hh
        rw [hns] at h2 h3
        exact ⟨ns2, h1, h2, h3, h4⟩
      · rw [impl_DiskPut.f, if_neg (fun hh => hp hh.2)] at h
        simp only [Option.some.injEq, Prod.mk.injEq] at h
        obtain ⟨rfl, rfl, rfl, rfl, rfl⟩ := h
        exact changed_put_no a0_0 A0_1 c0_1 l0_1 A0_2 c0_2 l0_2 A0_3 c0_3 l0_3 A0_4 c0_4 l0_4 (.pointer (some ⟨gp, 0, none⟩)) W (Kd.C_below hr0_1 hb) hc0_1 (Kd.C_below hr0_2 hb) hc0_2 (Kd.C_below hr0_3 hb) hc0_3 (Kd.C_below hr0_4 hb) hc0_4 hg (fun W2 hb2 g ns hD hns _ => putFn_no g gp ⟨a1_0, a1_1, a1_2⟩ W2 (Nat.le_of_lt (blk_lt hD.blk)) ((hb2.block gp (blk_lt hgp)).trans hgp) (by simpa using hp))
    · rw [impl_DiskPut.f, if_neg (fun hh => hg hh.1)] at h
      simp only [Option.some.injEq, Prod.mk.injEq] at h
      obtain ⟨rfl, rfl, rfl, rfl, rfl⟩ := h
      exact changed_bad a0_0 A0_1 c0_1 l0_1 A0_2 c0_2 l0_2 A0_3 c0_3 l0_3 A0_4 c0_4 l0_4 _ W (Kd.C_below hr0_1 hb) hc0_1 (Kd.C_below hr0_2 hb) hc0_2 (Kd.C_below hr0_3 hb) hc0_3 (Kd.C_below hr0_4 hb) hc0_4 hg
  have HK := Az.mk key
  have HB := Az.mk (Below.refl w.heap.size w)
  clear hr0_1 hc0_1 hr0_2 hc0_2 hr0_3 hc0_3 hr0_4 hc0_4 h key
  have hu28 := Try.underlying28
  have hu54 := Try.underlying54
  go_enter Try.func38, Try.ntmps38
  go_wp2_with (first | ((with_reducible refine zqg (N := 2) rfl ?_); refine zqb ?hg (N := 2) ?hd (cs := #[.int .i64 a0_0, .slice A0_1 l0_1.length c0_1, .slice A0_2 l0_2.length c0_2, .slice A0_3 l0_3.length c0_3, .slice A0_4 l0_4.length c0_4]) (t := 28) ?hr ?_; (case hd => rfl); (case hg => rfl); (case hr => first | (go_simp; done) | (go_simp; rfl)); intro gb hg w1 hbox hb; have n0_ := Az.mk (below_step (by repeat (first | (with_reducible first | exact HB.out | apply zq2 | apply zq1 | apply zqd) | exact HB.out)) hb); have BD := Az.mk hbox; clear HB; have HB := n0_; clear n0_ hb hbox hg; have hcd_0 : w1.cell? ⟨gb, 0, none⟩ = some (.int .i64 a0_0) := (zq4 BD.out 0).trans rfl; have hcd_1 : w1.cell? ⟨gb, 1, none⟩ = some (.slice A0_1 l0_1.length c0_1) := (zq4 BD.out 1).trans rfl; have hcd_2 : w1.cell? ⟨gb, 2, none⟩ = some (.slice A0_2 l0_2.length c0_2) := (zq4 BD.out 2).trans rfl; have hcd_3 : w1.cell? ⟨gb, 3, none⟩ = some (.slice A0_3 l0_3.length c0_3) := (zq4 BD.out 3).trans rfl; have hcd_4 : w1.cell? ⟨gb, 4, none⟩ = some (.slice A0_4 l0_4.length c0_4) := (zq4 BD.out 4).trans rfl) | ((with_reducible refine zqg (N := 3) rfl ?_); refine zqb ?hg (N := 3) ?hd (cs := #[.bool a1_0, .int .i64 a1_1, .string a1_2]) (t := 54) ?hr ?_; (case hd => rfl); (case hg => rfl); (case hr => first | (go_simp; done) | (go_simp; rfl)); intro gp hg w3 hbox hb; have n0_ := Az.mk (below_step (by repeat (first | (with_reducible first | exact HB.out | apply zq2 | apply zq1 | apply zqd) | exact HB.out)) hb); have BP := Az.mk hbox; have nd_ := Az.mk (blk_below (g := gb) (o := .cells #[.int .i64 a0_0, .slice A0_1 l0_1.length c0_1, .slice A0_2 l0_2.length c0_2, .slice A0_3 l0_3.length c0_3, .slice A0_4 l0_4.length c0_4] 28 (0, 0)) (by (with_reducible repeat (first | refine zq6 ?_ _ | refine zq8 ?_ | refine zq7 ?_ _)); exact BD.out) hb); clear HB BD; have HB := n0_; have BD := nd_; clear n0_ nd_ hb hbox hg) | ((with_reducible refine zqg (N := 4) rfl ?_); refine zqb ?hg (N := 4) ?hd (cs := #[.int .i64 0, .slice none 0 0, .slice none 0 0, .slice none 0 0, .slice none 0 0]) (t := 28) ?hr ?_; (case hd => rfl); (case hg => rfl); (case hr => first | (go_simp; done) | (go_simp; rfl)); intro gr hg w2 hbox hb; have n0_ := Az.mk (below_step (by repeat (first | (with_reducible first | exact HB.out | apply zq2 | apply zq1 | apply zqd) | exact HB.out)) hb); have BK := Az.mk hbox; have HGR : Az (w.heap.size ≤ gr) := ⟨by rw [hg]; exact (below_size (by repeat (first | (with_reducible first | exact HB.out | apply zq2 | apply zq1 | apply zqd) | exact HB.out)))⟩; have nd_ := Az.mk (blk_below (g := gb) (o := .cells #[.int .i64 a0_0, .slice A0_1 l0_1.length c0_1, .slice A0_2 l0_2.length c0_2, .slice A0_3 l0_3.length c0_3, .slice A0_4 l0_4.length c0_4] 28 (0, 0)) (by (with_reducible repeat (first | refine zq6 ?_ _ | refine zq8 ?_ | refine zq7 ?_ _)); exact BD.out) hb); have np_ := Az.mk (blk_below (g := gp) (o := .cells #[.bool a1_0, .int .i64 a1_1, .string a1_2] 54 (0, 0)) (by (with_reducible repeat (first | refine zq6 ?_ _ | refine zq8 ?_ | refine zq7 ?_ _)); exact BP.out) hb); clear HB BD BP; have HB := n0_; have BD := nd_; have BP := np_; clear n0_ nd_ np_ hb hbox hg; have hcd_0 : w2.cell? ⟨gb, 0, none⟩ = some (.int .i64 a0_0) := (zq4 BD.out 0).trans rfl; have hcd_1 : w2.cell? ⟨gb, 1, none⟩ = some (.slice A0_1 l0_1.length c0_1) := (zq4 BD.out 1).trans rfl; have hcd_2 : w2.cell? ⟨gb, 2, none⟩ = some (.slice A0_2 l0_2.length c0_2) := (zq4 BD.out 2).trans rfl; have hcd_3 : w2.cell? ⟨gb, 3, none⟩ = some (.slice A0_3 l0_3.length c0_3) := (zq4 BD.out 3).trans rfl; have hcd_4 : w2.cell? ⟨gb, 4, none⟩ = some (.slice A0_4 l0_4.length c0_4) := (zq4 BD.out 4).trans rfl; have hcd_0 : w2.cell? ⟨gb, 0, none⟩ = some (.int .i64 a0_0) := (zq4 BD.out 0).trans rfl; have hcd_1 : w2.cell? ⟨gb, 1, none⟩ = some (.slice A0_1 l0_1.length c0_1) := (zq4 BD.out 1).trans rfl; have hcd_2 : w2.cell? ⟨gb, 2, none⟩ = some (.slice A0_2 l0_2.length c0_2) := (zq4 BD.out 2).trans rfl; have hcd_3 : w2.cell? ⟨gb, 3, none⟩ = some (.slice A0_3 l0_3.length c0_3) := (zq4 BD.out 3).trans rfl; have hcd_4 : w2.cell? ⟨gb, 4, none⟩ = some (.slice A0_4 l0_4.length c0_4) := (zq4 BD.out 4).trans rfl) | (go_at_call 76; refine (HK.out _ (by repeat (first | (with_reducible first | exact HB.out | apply zq2 | apply zq1 | apply zqd) | exact HB.out)) gp (by (with_reducible repeat (first | refine zq6 ?_ _ | refine zq8 ?_ | refine zq7 ?_ _)); exact BP.out)).mono ?_; rintro e w12 ⟨v1, v2, v3, v4, rfl, ho1, ho2, ho3, ho4, hb⟩; obtain ⟨A1, c1, rfl⟩ := Kd.R_slice ho1; obtain ⟨A2, c2, rfl⟩ := Kd.R_slice ho2; obtain ⟨A3, c3, rfl⟩ := Kd.R_slice ho3; obtain ⟨A4, c4, rfl⟩ := Kd.R_slice ho4; have n0_ := Az.mk (below_step (by repeat (first | (with_reducible first | exact HB.out | apply zq2 | apply zq1 | apply zqd) | exact HB.out)) hb); have n1_ := Az.mk (blk_below (g := gr) (o := .cells #[.int .i64 0, .slice none 0 0, .slice none 0 0, .slice none 0 0, .slice none 0 0] 28 (0, 0)) (by (with_reducible repeat (first | refine zq6 ?_ _ | refine zq8 ?_ | refine zq7 ?_ _)); exact BK.out) hb); have HG5 : Az (gr < _) := ⟨blk_lt (by (with_reducible repeat (first | refine zq6 ?_ _ | refine zq8 ?_ | refine zq7 ?_ _)); exact BK.out)⟩; have HS5 : Az (w.heap.size ≤ _) := ⟨below_size (by repeat (first | (with_reducible first | exact HB.out | apply zq2 | apply zq1 | apply zqd) | exact HB.out))⟩; have HO1 := Az.mk ho1; have HO2 := Az.mk ho2; have HO3 := Az.mk ho3; have HO4 := Az.mk ho4; clear HB BK; have HB := n0_; have BK := n1_; clear n0_ n1_ ho1 ho2 ho3 ho4 hb; have hcz_0 : w12.cell? ⟨gr, 0, none⟩ = some (.int .i64 0) := (zq4 BK.out 0).trans rfl; have hcz_1 : w12.cell? ⟨gr, 1, none⟩ = some (.slice none 0 0) := (zq4 BK.out 1).trans rfl; have hcz_2 : w12.cell? ⟨gr, 2, none⟩ = some (.slice none 0 0) := (zq4 BK.out 2).trans rfl; have hcz_3 : w12.cell? ⟨gr, 3, none⟩ = some (.slice none 0 0) := (zq4 BK.out 3).trans rfl; have hcz_4 : w12.cell? ⟨gr, 4, none⟩ = some (.slice none 0 0) := (zq4 BK.out 4).trans rfl; have hfz_0 := zq5 BK.out 0; have hfz_1 := zq5 BK.out 1; have hfz_2 := zq5 BK.out 2; have hfz_3 := zq5 BK.out 3; have hfz_4 := zq5 BK.out 4))
  have hset : ∀ {W : World} (h : Below w.heap.size w W) (j : Nat) (u : Value), Below w.heap.size w (W.setCell ⟨gr, j, none⟩ u) := fun h j u => zq3 h HGR.out
  refine bodyPost_ret (results_cell_row rfl _ _ gr 28 #[.int .i64 r1, .slice A1 r2.length c1, .slice A2 r3.length c2, .slice A3 r4.length c3, .slice A4 r5.length c4] (0, 0) _ rfl (by
    refine blk_put (cs := #[.int .i64 r1, .slice A1 r2.length c1, .slice A2 r3.length c2, .slice A3 r4.length c3, .slice none 0 0]) ?_ 4 _ rfl
    refine blk_put (cs := #[.int .i64 r1, .slice A1 r2.length c1, .slice A2 r3.length c2, .slice none 0 0, .slice none 0 0]) ?_ 3 _ rfl
    refine blk_put (cs := #[.int .i64 r1, .slice A1 r2.length c1, .slice none 0 0, .slice none 0 0, .slice none 0 0]) ?_ 2 _ rfl
    refine blk_put (cs := #[.int .i64 r1, .slice none 0 0, .slice none 0 0, .slice none 0 0, .slice none 0 0]) ?_ 1 _ rfl
    refine blk_put (cs := #[.int .i64 0, .slice none 0 0, .slice none 0 0, .slice none 0 0, .slice none 0 0]) ?_ 0 _ rfl
    exact BK.out) Try.underlying28 rfl (by kernel_rfl)) rfl ?_
  exact ⟨_, _, _, _, rfl, Kd.R_lower (R_setOwn (R_setOwn (R_setOwn (R_setOwn (R_setOwn HO1.out HG5.out 0 _) HG5.out 1 _) HG5.out 2 _) HG5.out 3 _) HG5.out 4 _) HS5.out,
    Kd.R_lower (R_setOwn (R_setOwn (R_setOwn (R_setOwn (R_setOwn HO2.out HG5.out 0 _) HG5.out 1 _) HG5.out 2 _) HG5.out 3 _) HG5.out 4 _) HS5.out,
    Kd.R_lower (R_setOwn (R_setOwn (R_setOwn (R_setOwn (R_setOwn HO3.out HG5.out 0 _) HG5.out 1 _) HG5.out 2 _) HG5.out 3 _) HG5.out 4 _) HS5.out,
    Kd.R_lower (R_setOwn (R_setOwn (R_setOwn (R_setOwn (R_setOwn HO4.out HG5.out 0 _) HG5.out 1 _) HG5.out 2 _) HG5.out 3 _) HG5.out 4 _) HS5.out,
    hset (hset (hset (hset (hset HB.out 0 _) 1 _) 2 _) 3 _) 4 _⟩
end Go.Proofs.Ytkgpnloghmbmlaa.Print
namespace Go.Proofs.Ytkgpnloghmbmlaa.Hd
open Go.RowKit Go.Proofs.Ytkgpnloghmbmlaa.Print Go.Proofs.YtkgpnloghmbmlaaW.PrintWords Go.Proofs.Ytkgpnloghmbmlaa.Pure Go.Proofs.Ytkgpnloghmbmlaa.Drv
set_option linter.unusedVariables false
set_option linter.unusedSimpArgs false
theorem come_eq {st : Int} {l1 l2 : List ByteArray} {l3 : List Bool} {l4 : List S54} {p : S54} (hp : putB p = true) (h1 : l1.length = 12) (h2 : l2.length = 2) (h3 : l3.length = 12) :
    spec_l3Come.f st l1 l2 l3 l4 p.f0 p.f1 p.f2 = some (st, comeSl p l1, comeRg p l2, comeSp p l3, l4) := by
  unfold putB at hp
  unfold spec_l3Come.f comeSl comeRg comeSp
  by_cases h : p.f0 = true
  · rw [if_pos h, decide_eq_true_iff] at hp
    rw [if_pos h, if_pos h, if_pos h, if_pos h, if_pos (by omega), if_pos (by omega)]
  · rw [if_neg h, decide_eq_true_iff] at hp
    rw [if_neg h, if_neg h, if_neg h, if_neg h, if_pos (by omega), if_pos (by omega), if_pos (by omega)]
theorem come_len {l1 l2 : List ByteArray} {l3 : List Bool} {p : S54} : (comeSl p l1).length = l1.length ∧ (comeRg p l2).length = l2.length ∧ (comeSp p l3).length = l3.length := by
  unfold comeSl comeRg comeSp
  refine ⟨?_, ?_, ?_⟩ <;> split <;> simp
theorem flush_l0 {st : Int} {l4 : List S54} (hl : l4.length ≤ 1048576) (hp : ∀ x ∈ l4, putB x = true) (d : Nat) : ∀ (i : Nat) (l1 l2 : List ByteArray) (l3 : List Bool), i + d = l4.length → l1.length = 12 → l2.length = 2 → l3.length = 12 →
    Ev (fun k => spec_l3Flush.l0 k (i : Int) st l1 l2 l3 l4) (st, (comeAll (l4.drop i) (l3, l1, l2)).2.1, (comeAll (l4.drop i) (l3, l1, l2)).2.2, (comeAll (l4.drop i) (l3, l1, l2)).1, []) := by
  induction d with
  | zero =>
    intro i l1 l2 l3 hi h1 h2 h3
    rw [List.drop_eq_nil_of_le (by omega)]
    refine Ev.next ?_
    simp only [spec_l3Flush.l0]
    exact Ev.neg (by omega) (Ev.ret rfl)
  | succ d ih =>
    intro i l1 l2 l3 hi h1 h2 h3
    have hlt : i < l4.length := by omega
    have e : wrap64 ((i : Int) + 1) = ((i + 1 : Nat) : Int) := by rw [wrap_ok (by omega)]; omega
    have hx : rd_T54 l4 (i : Int) = l4[i] := by simp [rd_T54, List.getD, hlt]
    have hc := come_len (l1 := l1) (l2 := l2) (l3 := l3) (p := l4[i])
    have hih := ih (i + 1) (comeSl l4[i] l1) (comeRg l4[i] l2) (comeSp l4[i] l3) (by omega) (hc.1.trans h1) (hc.2.1.trans h2) (hc.2.2.trans h3)
    rw [List.drop_eq_getElem_cons hlt]
    refine Ev.next ?_
    simp only [spec_l3Flush.l0, e, hx]
    clear e hx
    exact Ev.pos (by omega) (Ev.pos (by omega) (Ev.take (come_eq (hp _ (List.getElem_mem hlt)) h1 h2 h3) hih))
theorem flush_ev {st : Int} {l1 l2 : List ByteArray} {l3 : List Bool} {l4 : List S54} (hl : l4.length ≤ 1048576) (hp : ∀ x ∈ l4, putB x = true) (h1 : l1.length = 12) (h2 : l2.length = 2) (h3 : l3.length = 12) :
    Ev (fun k => spec_l3Flush.f k st l1 l2 l3 l4) (st, (comeAll l4 (l3, l1, l2)).2.1, (comeAll l4 (l3, l1, l2)).2.2, (comeAll l4 (l3, l1, l2)).1, []) := by
  unfold spec_l3Flush.f
  have h := flush_l0 (st := st) hl hp l4.length 0 l1 l2 l3 (Nat.zero_add _) h1 h2 h3
  rwa [List.drop_zero] at h
theorem good_put {st : Int} {l1 l2 : List ByteArray} {l3 : List Bool} {l4 : List S54} (h : Print.Good st l1 l2 l3 l4) : ∀ x ∈ l4, putB x = true := fun x hx => by
  have h1 := h.wa
  rw [List.any_eq_false] at h1
  simpa using h1 x hx
def GoodD (D : Dd) : Prop := Print.Good D.st D.l1 D.l2 D.l3 D.l4
instance (D : Dd) : Decidable (GoodD D) := by unfold GoodD; infer_instance
def noD : Dd := ⟨0, [], [], [], []⟩
def comeD (D : Dd) : Dd := ⟨D.st, (comeAll D.l4 (D.l3, D.l1, D.l2)).2.1, (comeAll D.l4 (D.l3, D.l1, D.l2)).2.2, (comeAll D.l4 (D.l3, D.l1, D.l2)).1, []⟩
def flushD (D : Dd) : Dd := if GoodD D then comeD D else noD
def laidD (D : Dd) (p : S54) : Dd := if D.st = 1 then D else if D.l4.length = 40 then { comeD D with l4 := [p] } else { D with l4 := D.l4 ++ [p] }
def putD (D : Dd) (p : S54) : Dd := if GoodD D ∧ putB p = true then laidD D p else noD
theorem fits_good {D : Dd} (h : GoodD D) : FitsD D := ⟨by have := h.sh.2.1; omega, by have := h.sh.2.2.1; omega, by have := h.sh.2.2.2.1; omega, by have := h.sh.2.2.2.2; omega⟩
theorem fits_no : FitsD noD := ⟨by simp [noD], by simp [noD], by simp [noD], by simp [noD]⟩
theorem implFlush_eq (D : Dd) : impl_DiskFlush.f D.st D.l1 D.l2 D.l3 D.l4 = some ((flushD D).st, (flushD D).l1, (flushD D).l2, (flushD D).l3, (flushD D).l4) := by
  unfold impl_DiskFlush.f flushD
  by_cases h : GoodD D
  · have h' : Print.Good D.st D.l1 D.l2 D.l3 D.l4 := h
    rw [if_pos h', if_pos h]
    rfl
  · have h' : ¬ Print.Good D.st D.l1 D.l2 D.l3 D.l4 := h
    rw [if_neg h', if_neg h]
    rfl
theorem implPut_eq (D : Dd) (p : S54) : impl_DiskPut.f D.st D.l1 D.l2 D.l3 D.l4 p.f0 p.f1 p.f2 = some ((putD D p).st, (putD D p).l1, (putD D p).l2, (putD D p).l3, (putD D p).l4) := by
  unfold impl_DiskPut.f putD
  by_cases h : GoodD D ∧ putB p = true
  · have h' : Print.Good D.st D.l1 D.l2 D.l3 D.l4 ∧ putB ⟨p.f0, p.f1, p.f2⟩ = true := h
    rw [if_pos h', if_pos h]
    unfold putF laidD
    by_cases h1 : D.st = 1
    · simp only [if_pos h1]
    · by_cases h2 : D.l4.length = 40
      · simp only [if_neg h1, if_pos h2]
        rfl
      · simp only [if_neg h1, if_neg h2]
  · have h' : ¬ (Print.Good D.st D.l1 D.l2 D.l3 D.l4 ∧ putB ⟨p.f0, p.f1, p.f2⟩ = true) := h
    rw [if_neg h', if_neg h]
    rfl
theorem implFlush_call {w : World} {M : Mm} {D : Dd} (h : Rd w M D) : Calls Try.prog 35 #[.agg (cD M D)] w (Gives (flushD D) w) :=
  (impl_DiskFlush.calls (hr0_1 := h.r1) (hc0_1 := h.h1) (hr0_2 := h.r2) (hc0_2 := h.h2) (hr0_3 := h.r3) (hc0_3 := h.h3) (hr0_4 := h.r4) (hc0_4 := h.h4) (h := implFlush_eq D)).mono fun e w' hh => gives_of hh
def cP (p : S54) : Array Value := #[.bool p.f0, .int .i64 p.f1, .string p.f2]
theorem implPut_call {w : World} {M : Mm} {D : Dd} {p : S54} (h : Rd w M D) : Calls Try.prog 38 #[.agg (cD M D), .agg (cP p)] w (Gives (putD D p) w) :=
  (impl_DiskPut.calls (hr0_1 := h.r1) (hc0_1 := h.h1) (hr0_2 := h.r2) (hc0_2 := h.h2) (hr0_3 := h.r3) (hc0_3 := h.h3) (hr0_4 := h.r4) (hc0_4 := h.h4) (h := implPut_eq D p)).mono fun e w' hh => gives_of hh
structure Da where
  st : Int
  l1 : List ByteArray
  l2 : List ByteArray
  l3 : List Bool
  l4 : List S65
structure RdA (w : World) (M : Mm) (D : Da) : Prop where
  r1 : Kd.C Kd.string w M.A1 D.l1.length D.l1
  h1 : D.l1.length ≤ M.c1
  r2 : Kd.C Kd.string w M.A2 D.l2.length D.l2
  h2 : D.l2.length ≤ M.c2
  r3 : Kd.C Kd.bool w M.A3 D.l3.length D.l3
  h3 : D.l3.length ≤ M.c3
  r4 : Kd.C k65 w M.A4 D.l4.length D.l4
  h4 : D.l4.length ≤ M.c4
end Go.Proofs.Ytkgpnloghmbmlaa.Hd
namespace Go.Proofs.Ytkgpnloghmbmlaa.Hd
open Go.RowKit Go.Proofs.Ytkgpnloghmbmlaa.Print Go.Proofs.YtkgpnloghmbmlaaW.PrintWords Go.Proofs.YtkgpnloghmbmlaaW.PrintLast Go.Proofs.YtkgpnloghmbmlaaW.PrintMore Go.Proofs.Ytkgpnloghmbmlaa.Pure
set_option linter.unusedVariables false
set_option linter.unusedSimpArgs false
theorem cD_one (M : Mm) (D : Dd) : (cD M D).all (·.oneCell') = true := by simp [cD, Value.oneCell']
theorem sizeE28 : (Try.prog.info? 28).map (·.size) = some 5 := by kernel_rfl
theorem sizeE54 : (Try.prog.info? 54).map (·.size) = some 3 := by kernel_rfl
end Go.Proofs.Ytkgpnloghmbmlaa.Hd
namespace Go.Proofs.Ytkgpnloghmbmlaa.Print
open Go.RowKit Go.Proofs.YtkgpnloghmbmlaaW.PrintWords Go.Proofs.YtkgpnloghmbmlaaW.PrintLast Go.Proofs.YtkgpnloghmbmlaaW.PrintMore Go.Proofs.Ytkgpnloghmbmlaa.Drv Go.Proofs.Ytkgpnloghmbmlaa.Hd
set_option linter.unusedVariables false
set_option linter.unusedSimpArgs false
end Go.Proofs.Ytkgpnloghmbmlaa.Print
namespace Go.Proofs.Ytkgpnloghmbmlaa.Hd
open Go.RowKit Go.Proofs.Ytkgpnloghmbmlaa.Print Go.Proofs.YtkgpnloghmbmlaaW.PrintWords Go.Proofs.YtkgpnloghmbmlaaW.PrintLast Go.Proofs.YtkgpnloghmbmlaaW.PrintMore Go.Proofs.Ytkgpnloghmbmlaa.Pure Go.Proofs.Ytkgpnloghmbmlaa.Drv
set_option linter.unusedVariables false
set_option linter.unusedSimpArgs false
def SpoilOk (a b c : Int) : Prop := 0 ≤ a ∧ a < 12 ∧ 0 ≤ b ∧ b < 3 ∧ 1 ≤ c ∧ c ≤ 255
instance (a b c : Int) : Decidable (SpoilOk a b c) := by unfold SpoilOk; infer_instance
theorem slot_good {D : Dd} (h : GoodD D) {a : Nat} (ha : a < 12) : ((D.l1.getD a ByteArray.empty).size = 0 ∧ D.l3.getD a false = false) ∨ (D.l1.getD a ByteArray.empty).size = 3 := by
  have h1 := h.so a ha
  unfold badSlot at h1
  split at h1
  · exact .inl ⟨by assumption, h1⟩
  · exact .inr (by simpa using h1)
theorem empty_of {s : ByteArray} (h : s.size = 0) : s.toList.isEmpty = true := by
  have h1 : s.toList.length = s.size := by simp [ByteArray.toList_eq]
  cases h2 : s.toList with
  | nil => rfl
  | cons _ _ => rw [h2] at h1; simp at h1; omega
theorem nonempty_of {s : ByteArray} (h : s.size ≠ 0) : s.toList.isEmpty = false := by
  have h1 : s.toList.length = s.size := by simp [ByteArray.toList_eq]
  cases h2 : s.toList with
  | nil => rw [h2] at h1; simp at h1; omega
  | cons _ _ => rfl
end Go.Proofs.Ytkgpnloghmbmlaa.Hd
namespace Go.Proofs.Ytkgpnloghmbmlaa.Hd
open Go.RowKit Go.Proofs.Ytkgpnloghmbmlaa.Print Go.Proofs.YtkgpnloghmbmlaaW.PrintWords Go.Proofs.YtkgpnloghmbmlaaW.PrintLast Go.Proofs.YtkgpnloghmbmlaaW.PrintMore Go.Proofs.Ytkgpnloghmbmlaa.Pure Go.Proofs.Ytkgpnloghmbmlaa.Drv
set_option linter.unusedVariables false
set_option linter.unusedSimpArgs false
theorem specOk_call {w : World} {M : Mm} {D : Dd} {r : Bool} (hf : FitsD D) (hr : goodB D.st D.l1 D.l2 D.l3 D.l4 = r) (h : Rd w M D) : Calls Try.prog 26 #[.agg (cD M D)] w fun e w' => e = .returned (.bool r) ∧ Below w.heap.size w w' := by
  subst hr
  obtain ⟨K, hK⟩ := specDiskOk_ev D.st D.l1 D.l2 D.l3 D.l4 hf.h4
  exact spec_DiskOk.calls (hr0_1 := h.r1) (hc0_1 := h.h1) (hr0_2 := h.r2) (hc0_2 := h.h2) (hr0_3 := h.r3) (hc0_3 := h.h3) (hr0_4 := h.r4) (hc0_4 := h.h4) (h := hK K (Nat.le_refl _))
theorem l6In_call {w : World} (n lo hi : Int) (r : Bool) (hr : decide (lo ≤ n ∧ n ≤ hi) = r) : Calls Try.prog 51 #[.int .i64 n, .int .i64 lo, .int .i64 hi] w fun e w' => e = .returned (.bool r) ∧ Below w.heap.size w w' := by
  subst hr
  exact (spec_l6In.calls n lo hi _ w (l6In_eq n lo hi)).mono fun e w' h => by
    first
    | exact h
    | exact ⟨h.1, h.2.below⟩
    | (obtain ⟨h1, h2⟩ := h; subst h2; exact ⟨h1, Below.refl _ _⟩)
def M0 : Mm := ⟨none, 0, none, 0, none, 0, none, 0⟩
theorem own_no (w : World) (lo hi : Nat) : Own w lo hi M0 noD := ⟨Kd.R_nil _ _ _ _ _, Kd.R_nil _ _ _ _ _, Kd.R_nil _ _ _ _ _, Kd.R_nil _ _ _ _ _⟩
structure SpoilIn (D : Dd) (a b : Nat) (c : Int) : Prop where
  a1 : a < D.l1.length
  a3 : a < D.l3.length
  l1 : D.l1.length ≤ 1048576
  l3 : D.l3.length ≤ 1048576
  b : (D.l1.getD a ByteArray.empty).size = 0 ∨ b < (D.l1.getD a ByteArray.empty).size
  s : (D.l1.getD a ByteArray.empty).size ≤ 1099511627776
  c : 0 ≤ c ∧ c ≤ 255
end Go.Proofs.Ytkgpnloghmbmlaa.Hd
namespace Go.Proofs.Ytkgpnloghmbmlaa.Hq
open Go.RowKit Go.Proofs.Ytkgpnloghmbmlaa.Print Go.Proofs.YtkgpnloghmbmlaaW.PrintWords Go.Proofs.YtkgpnloghmbmlaaW.PrintLast Go.Proofs.YtkgpnloghmbmlaaW.PrintMore Go.Proofs.Ytkgpnloghmbmlaa.Hd Go.Proofs.Ytkgpnloghmbmlaa.Pure
set_option linter.unusedVariables false
structure OwS (w : World) (b : Nat) (S : Nat → Prop) (M : Mm) (D : Dd) : Prop where
  o1 : Kd.R Kd.string 9 w b (fun k => S k ∧ some k ≠ (M.s2 D).ownBlock) (M.s1 D) D.l1
  o2 : Kd.R Kd.string 9 w b (fun k => S k ∧ some k ≠ (M.s1 D).ownBlock) (M.s2 D) D.l2
  o3 : Kd.R Kd.bool 4 w b (fun k => S k) (M.s3 D) D.l3
  o4 : Kd.R k54 54 w b (fun k => S k) (M.s4 D) D.l4
section
variable {w w' : World} {b : Nat} {S : Nat → Prop} {M : Mm} {D : Dd}
theorem OwS.rd (h : OwS w b S M D) : Rd w M D :=
  ⟨(R_C h.o1 rfl).1, (R_C h.o1 rfl).2, (R_C h.o2 rfl).1, (R_C h.o2 rfl).2, (R_C h.o3 rfl).1, (R_C h.o3 rfl).2, (R_C h.o4 rfl).1, (R_C h.o4 rfl).2⟩
theorem OwS.move (h : OwS w b S M D) (hk : ∀ k, S k → w'.heap[k]? = w.heap[k]?) : OwS w' b S M D :=
  ⟨Kd.R_move h.o1 fun k hk1 => hk k hk1.1, Kd.R_move h.o2 fun k hk1 => hk k hk1.1, Kd.R_move h.o3 fun k hk1 => hk k hk1, Kd.R_move h.o4 fun k hk1 => hk k hk1⟩
theorem Hq.ows {base : Nat} {w0 : World} {L : List Part} {wc : World} (h : Hq base w0 w L) (i : Nat) (e : L[i]? = some (.set S wc)) (ho : OwS wc b S M D) : OwS w b S M D := ho.move (h.same i e)
theorem OwS.of_own {lo hi : Nat} (h : Own w lo hi M D) (hb : b ≤ lo) : OwS w b (fun k => lo ≤ k ∧ k < hi) M D :=
  ⟨Kd.R_lower (Kd.R_mono (Kd.R_bound h.o1) fun k hk => ⟨⟨hk.2.1, hk.1.1⟩, hk.1.2⟩) hb, Kd.R_lower (Kd.R_mono (Kd.R_bound h.o2) fun k hk => ⟨⟨hk.2.1, hk.1.1⟩, hk.1.2⟩) hb, Kd.R_lower (Kd.R_mono (Kd.R_bound h.o3) fun k hk => ⟨hk.2.1, hk.1⟩) hb, Kd.R_lower (Kd.R_mono (Kd.R_bound h.o4) fun k hk => ⟨hk.2.1, hk.1⟩) hb⟩
def Touch (b : Nat) (S : Nat → Prop) (D' : Dd) (w : World) (e : Ending) (w' : World) : Prop := ∃ M' : Mm, e = .returned (.agg (cD M' D')) ∧ OwS w' b (fun k => (S k ∨ w.heap.size ≤ k) ∧ k < w'.heap.size) M' D' ∧ Below b w w' ∧ ∀ k, k < w.heap.size → ¬ S k → w'.heap[k]? = w.heap[k]?
theorem touch_of {w0 : World} {M : Mm} (hB : Below w0.heap.size w0 w) (h : OwS w w0.heap.size S M D) {e : Ending} {st : Int} {l1 l2 : List ByteArray} {l3 : List Bool} {l4 : List S54} {P1 P2 P3 P4 : Nat → Prop} (i1 : ∀ k, P1 k → S k) (i2 : ∀ k, P2 k → S k) (i3 : ∀ k, P3 k → S k) (i4 : ∀ k, P4 k → S k)
    (hr : ∃ v1_ v2_ v3_ v4_ : Value, e = .returned (.agg #[.int .i64 st, v1_, v2_, v3_, v4_]) ∧ Kd.R Kd.string 9 w' w0.heap.size (fun k_ => ((P1 k_ ∨ P2 k_ ∨ P3 k_ ∨ P4 k_) ∨ w.heap.size ≤ k_) ∧ some k_ ≠ (v2_ : Value).ownBlock) v1_ l1 ∧ Kd.R Kd.string 9 w' w0.heap.size (fun k_ => ((P1 k_ ∨ P2 k_ ∨ P3 k_ ∨ P4 k_) ∨ w.heap.size ≤ k_) ∧ some k_ ≠ (v1_ : Value).ownBlock) v2_ l2 ∧ Kd.R Kd.bool 4 w' w0.heap.size (fun k_ => ((P1 k_ ∨ P2 k_ ∨ P3 k_ ∨ P4 k_) ∨ w.heap.size ≤ k_)) v3_ l3 ∧ Kd.R k54 54 w' w0.heap.size (fun k_ => ((P1 k_ ∨ P2 k_ ∨ P3 k_ ∨ P4 k_) ∨ w.heap.size ≤ k_)) v4_ l4 ∧ Below w0.heap.size w0 w' ∧ Kept w w' (fun k_ => P1 k_ ∨ P2 k_ ∨ P3 k_ ∨ P4 k_)) :
    Touch w0.heap.size S ⟨st, l1, l2, l3, l4⟩ w e w' := by
  obtain ⟨v1, v2, v3, v4, he, q1, q2, q3, q4, hb', hk⟩ := hr
  obtain ⟨A1, c1, rfl⟩ := Kd.R_slice q1
  obtain ⟨A2, c2, rfl⟩ := Kd.R_slice q2
  obtain ⟨A3, c3, rfl⟩ := Kd.R_slice q3
  obtain ⟨A4, c4, rfl⟩ := Kd.R_slice q4
  have up : ∀ k, ((P1 k ∨ P2 k ∨ P3 k ∨ P4 k) ∨ w.heap.size ≤ k) → k < w'.heap.size → (S k ∨ w.heap.size ≤ k) ∧ k < w'.heap.size := fun k h1 h2 => by
    refine ⟨?_, h2⟩
    rcases h1 with (h1 | h1 | h1 | h1) | h1
    · exact .inl (i1 k h1)
    · exact .inl (i2 k h1)
    · exact .inl (i3 k h1)
    · exact .inl (i4 k h1)
    · exact .inr h1
  refine ⟨⟨A1, c1, A2, c2, A3, c3, A4, c4⟩, he, ⟨?_, ?_, ?_, ?_⟩, ⟨hb'.os.trans hB.os.symm, hb'.tape.trans hB.tape.symm, hb'.output.trans hB.output.symm, hk.1, fun k h1 => (hb'.block k h1).trans (hB.block k h1).symm⟩, fun k h1 h2 => hk.2 k h1 ?_⟩
  · exact Kd.R_mono (Kd.R_bound q1) fun k hk => ⟨up k hk.1.1 hk.2.2.1, hk.1.2⟩
  · exact Kd.R_mono (Kd.R_bound q2) fun k hk => ⟨up k hk.1.1 hk.2.2.1, hk.1.2⟩
  · exact Kd.R_mono (Kd.R_bound q3) fun k hk => up k hk.1 hk.2.2.1
  · exact Kd.R_mono (Kd.R_bound q4) fun k hk => up k hk.1 hk.2.2.1
  · rintro (h3 | h3 | h3 | h3)
    · exact h2 (i1 k h3)
    · exact h2 (i2 k h3)
    · exact h2 (i3 k h3)
    · exact h2 (i4 k h3)
theorem l3Flush_callq {w0 : World} (hB : Below w0.heap.size w0 w) (h : OwS w w0.heap.size S M D) (hg : GoodD D) : Calls Try.prog 79 #[.agg (cD M D)] w (Touch w0.heap.size S (comeD D) w) := by
  have hf := fits_good hg
  obtain ⟨K, hK⟩ := flush_ev (st := D.st) hf.h4 (good_put hg) hg.sh.2.1 hg.sh.2.2.1 hg.sh.2.2.2.1
  have g1 := own_ge h.o1
  have g2 := own_ge h.o2
  have g3 := own_ge h.o3
  have g4 := own_ge h.o4
  refine (spec_l3Flush.calls (k := K) (P0_1_ := fun k => (M.s1 D).ownBlock = some k) (P0_2_ := fun k => (M.s2 D).ownBlock = some k) (P0_3_ := fun k => (M.s3 D).ownBlock = some k) (P0_4_ := fun k => (M.s4 D).ownBlock = some k) (w0 := w0) (hB := hB)
    (ho0_1 := R_base h.o1 (fun k hk => (g1 k hk).1) (fun _ hk => hk)) (hp0_1_0_2 := fun k h1 h2 => (g1 k h1).2.2 h2.symm) (ho0_2 := R_base h.o2 (fun k hk => (g2 k hk).1) (fun _ hk => hk)) (hp0_2_0_1 := fun k h1 h2 => (g2 k h1).2.2 h2.symm)
    (ho0_3 := R_base h.o3 (fun k hk => (g3 k hk).1) (fun _ hk => hk)) (ho0_4 := R_base54 h.o4 (fun k hk => (g4 k hk).1) (fun _ hk => hk)) (h := hK K (Nat.le_refl _))).mono fun e w' hr => ?_
  exact touch_of hB h (fun k hk => (g1 k hk).2.1) (fun k hk => (g2 k hk).2.1) (fun k hk => (g3 k hk).2) (fun k hk => (g4 k hk).2) hr
end
end Go.Proofs.Ytkgpnloghmbmlaa.Hq
namespace Go.Proofs.Ytkgpnloghmbmlaa.Hq
open Go.RowKit Go.Proofs.Ytkgpnloghmbmlaa.Print Go.Proofs.YtkgpnloghmbmlaaW.PrintWords Go.Proofs.YtkgpnloghmbmlaaW.PrintLast Go.Proofs.YtkgpnloghmbmlaaW.PrintMore Go.Proofs.Ytkgpnloghmbmlaa.Hd
set_option linter.unusedVariables false
set_option linter.unusedSimpArgs false
theorem OwS.put1 {w : World} {lo g c1 : Nat} {S : Nat → Prop} {A2 A3 A4 : Option Addr} {c2 c3 c4 : Nat} {D : Dd} (h : OwS w lo S ⟨some ⟨g, 0, none⟩, c1, A2, c2, A3, c3, A4, c4⟩ D) (i : Nat) (x : ByteArray) : OwS (w.setCell ⟨g, i, none⟩ (.string x)) lo S ⟨some ⟨g, 0, none⟩, c1, A2, c2, A3, c3, A4, c4⟩ { D with l1 := D.l1.set i x } := by
  have hg := (Kd.R_putg (enc := Value.string) (h1 := fun _ => rfl) h.o1 (i : Int) x)
  have hl : (D.l1.set i x).length = D.l1.length := List.length_set
  have h1 : Kd.string.R 9 (w.setCell ⟨g, i, none⟩ (.string x)) lo _ (.slice (some ⟨g, 0, none⟩) D.l1.length c1) (D.l1.set i x) := hg.1
  have hb : w.grownBy (w.setCell ⟨g, i, none⟩ (.string x)) (some g) := hg.2
  refine ⟨?_, ?_, ?_, ?_⟩
  · show Kd.R Kd.string 9 _ lo _ (.slice (some ⟨g, 0, none⟩) (D.l1.set i x).length c1) _
    rw [hl]
    exact h1
  · refine R_own_only (w := w) ?_ ownerless_string fun k hk => hb.block k (own_lt' h.o2 k hk) fun e => (own_ge h.o2 k hk).2.2 e
    show Kd.R Kd.string 9 w lo (fun k => S k ∧ some k ≠ (Value.slice (some ⟨g, 0, none⟩) (D.l1.set i x).length c1).ownBlock) _ _
    rw [hl]
    exact h.o2
  · exact R_far_types h.o3 h.o1 (by decide) hb ownerless_bool
  · exact R_far_types h.o4 h.o1 (by decide) hb ownerless_k54
theorem OwS.put3 {w : World} {lo g c3 : Nat} {S : Nat → Prop} {A1 A2 A4 : Option Addr} {c1 c2 c4 : Nat} {D : Dd} (h : OwS w lo S ⟨A1, c1, A2, c2, some ⟨g, 0, none⟩, c3, A4, c4⟩ D) (i : Nat) (x : Bool) : OwS (w.setCell ⟨g, i, none⟩ (.bool x)) lo S ⟨A1, c1, A2, c2, some ⟨g, 0, none⟩, c3, A4, c4⟩ { D with l3 := D.l3.set i x } := by
  have hg := (Kd.R_putg (enc := Value.bool) (h1 := fun _ => rfl) h.o3 (i : Int) x)
  have hl : (D.l3.set i x).length = D.l3.length := List.length_set
  have h1 : Kd.bool.R 4 (w.setCell ⟨g, i, none⟩ (.bool x)) lo _ (.slice (some ⟨g, 0, none⟩) D.l3.length c3) (D.l3.set i x) := hg.1
  have hb : w.grownBy (w.setCell ⟨g, i, none⟩ (.bool x)) (some g) := hg.2
  refine ⟨R_far_types h.o1 h.o3 (by decide) hb ownerless_string, R_far_types h.o2 h.o3 (by decide) hb ownerless_string, ?_, R_far_types h.o4 h.o3 (by decide) hb ownerless_k54⟩
  show Kd.R Kd.bool 4 _ lo _ (.slice (some ⟨g, 0, none⟩) (D.l3.set i x).length c3) _
  rw [hl]
  exact h1
theorem ows_cell3 {w : World} {lo g c3 : Nat} {S : Nat → Prop} {A1 A2 A4 : Option Addr} {c1 c2 c4 : Nat} {D : Dd} (h : OwS w lo S ⟨A1, c1, A2, c2, some ⟨g, 0, none⟩, c3, A4, c4⟩ D) {i : Nat} (hi3 : i < D.l3.length) : w.cell? ⟨g, i, none⟩ = some (.bool (rdOf false D.l3 (i : Int))) ∧ w.frozen? ⟨g, i, none⟩ = false :=
  Kd.R_cell (enc := Value.bool) (h1 := fun _ => rfl) false h.o3 (i : Int) (by omega) (by omega)
theorem ows_cell1 {w : World} {lo g c1 : Nat} {S : Nat → Prop} {A2 A3 A4 : Option Addr} {c2 c3 c4 : Nat} {D : Dd} (h : OwS w lo S ⟨some ⟨g, 0, none⟩, c1, A2, c2, A3, c3, A4, c4⟩ D) {i : Nat} (hi1 : i < D.l1.length) : w.cell? ⟨g, i, none⟩ = some (.string (rdOf ByteArray.empty D.l1 (i : Int))) ∧ w.frozen? ⟨g, i, none⟩ = false :=
  Kd.R_cell (enc := Value.string) (h1 := fun _ => rfl) ByteArray.empty h.o1 (i : Int) (by omega) (by omega)
set_option maxHeartbeats 8000000 in
set_option maxRecDepth 100000 in
theorem qspoil_main {w : World} {lo : Nat} {S : Nat → Prop} {M : Mm} {D : Dd} {a b : Nat} {by_ : Int} (h : OwS w lo S M D) (hS : ∀ k, S k → lo ≤ k ∧ k < w.heap.size) (ha1 : a < D.l1.length) (ha3 : a < D.l3.length) (hl : D.l1.length ≤ 1048576) (hl3 : D.l3.length ≤ 1048576) (hb : b < (D.l1.getD a ByteArray.empty).size) (hs : (D.l1.getD a ByteArray.empty).size ≤ 1099511627776) (hby : 0 ≤ by_ ∧ by_ ≤ 255) (hsp : D.l3.getD a false = false) :
    Calls Try.prog 87 #[.agg (cD M D), .int .i64 (a : Int), .int .i64 (b : Int), .int .i64 by_] w fun e w' => e = .returned (.agg (cD M D)) ∧ OwS w' lo S M { D with l1 := D.l1.set a (turned (D.l1.getD a ByteArray.empty) b by_), l3 := D.l3.set a true } ∧ Below lo w w' ∧ ∀ k, k < w.heap.size → ¬ S k → w'.heap[k]? = w.heap[k]? := by
  have hs28 := sizeL28
  obtain ⟨A1, c1, A2, c2, A3, c3, A4, c4⟩ := M
  obtain ⟨g1, e1, p1, q1, _⟩ := own_addr h.o1 (by omega)
  have hg1 : S g1 := q1.1
  obtain ⟨g3, e3, p3, q3, _⟩ := own_addr h.o3 (by omega)
  have hg3 : S g3 := q3
  simp only at e1 e3
  subst e1
  subst e3
  obtain ⟨tx, htx⟩ : ∃ t, t = D.l1.getD a ByteArray.empty := ⟨_, rfl⟩
  have H := Az.mk (Hq.start_set w (Nat.le_of_lt (Nat.lt_of_le_of_lt (hS g1 hg1).1 (hS g1 hg1).2)) hS)
  have hc1 : w.cell? ⟨g1, a, none⟩ = some (.string tx) := by
    rw [(ows_cell1 h ha1).1, htx]
    simp [rdOf]
  have hne : tx.toList.isEmpty = false := by
    rw [← htx] at hb
    have : tx.toList.length = tx.size := by simp [ByteArray.toList_eq]
    cases h2 : tx.toList with
    | nil => rw [h2] at this; simp at this; omega
    | cons _ _ => rfl
  have b0 := eq_true (show (0 : Int) ≤ (b : Int) by omega)
  have b1 := eq_true (show (b : Int) < (tx.size : Int) by rw [← htx] at hb; omega)
  have HBT : Az (b < (bytesOf tx).length) := ⟨by rw [← htx] at hb; simpa [bytesOf] using hb⟩
  have a0 := eq_true (show (0 : Int) ≤ (a : Int) by omega)
  have a1 := eq_true (show (a : Int) < (D.l1.length : Int) by omega)
  have hc3 : w.cell? ⟨g3, a, none⟩ = some (.bool false) := by
    have e : rdOf false D.l3 (a : Int) = false := by simpa [rdOf] using hsp
    rw [(ows_cell3 h ha3).1, e]
  have F1 := Az.mk (ows_cell1 h ha1).2
  have HA3 := Az.mk ha3
  have HC1 := Az.mk hc1
  have HC3 := Az.mk hc3
  have a3 := eq_true (show (a : Int) < (D.l3.length : Int) by omega)
  have G1 := Az.mk hg1
  have G3 := Az.mk hg3
  have HBY := Az.mk hby
  have HO := Az.mk h
  have HTX := Az.mk htx
  clear h hl hl3 hb hs htx hc1 hc3 hg1 hg3 p1 q1 p3 q3 hby hS ha1 ha3 hsp
  go_enter Try.func87, Try.ntmps87
  go_wp2_with (first | ((with_reducible refine zqg (N := 4) rfl ?_); refine H.out.bx rfl (cD ⟨some ⟨g1, 0, none⟩, c1, A2, c2, some ⟨g3, 0, none⟩, c3, A4, c4⟩ D) 28 ?hr ?_; (case hr => first | (go_simp; done) | (go_simp; rfl)); intro g4 w4 H1; clear H; have H := H1; clear H1; (try simp only [Act.put, List.setIfInBounds_toArray, List.set_cons_zero, List.set_cons_succ])) | ((with_reducible refine zqg (N := 8) rfl ?_); refine H.out.bx rfl (#[.int .i64 0, .slice none 0 0, .slice none 0 0, .slice none 0 0, .slice none 0 0]) 28 ?hr ?_; (case hr => first | (go_simp; done) | (go_simp; rfl)); intro g8 w8 H1; clear H; have H := H1; clear H1; (try simp only [Act.put, List.setIfInBounds_toArray, List.set_cons_zero, List.set_cons_succ])) | ((with_reducible refine zqg (N := 11) rfl ?_); refine H.out.ld_cell 1 rfl 1 (v := .slice (some ⟨g1, 0, none⟩) D.l1.length c1) rfl rfl rfl rfl Try.underlying24 rfl ?_; (try simp only [Act.put, List.setIfInBounds_toArray, List.set_cons_zero, List.set_cons_succ])) | ((with_reducible refine zqg (N := 14) rfl ?_); refine ld_c (H.out.cell 2 rfl G1.out HC1.out) rfl rfl rfl Try.underlying9 rfl ?_; (try simp only [Act.put, List.setIfInBounds_toArray, List.set_cons_zero, List.set_cons_succ])) | ((with_reducible refine zqg (N := 18) rfl ?_); refine gate_guard (by rfl) ?_; dsimp only; refine H.out.ld_cell 1 rfl 3 (v := .slice (some ⟨g3, 0, none⟩) D.l3.length c3) rfl rfl rfl rfl Try.underlying25 rfl ?_; (try simp only [Act.put, List.setIfInBounds_toArray, List.set_cons_zero, List.set_cons_succ])) | ((with_reducible refine zqg (N := 21) rfl ?_); refine gate_guard (by rfl) ?_; dsimp only; refine ld_c (H.out.cell 2 rfl G3.out HC3.out) rfl rfl rfl Try.underlying4 rfl ?_; (try simp only [Act.put, List.setIfInBounds_toArray, List.set_cons_zero, List.set_cons_succ])) | ((with_reducible refine zqg (N := 25) rfl ?_); refine H.out.ld_cell 1 rfl 1 (v := .slice (some ⟨g1, 0, none⟩) D.l1.length c1) rfl rfl rfl rfl Try.underlying24 rfl ?_; (try simp only [Act.put, List.setIfInBounds_toArray, List.set_cons_zero, List.set_cons_succ])) | ((with_reducible refine zqg (N := 28) rfl ?_); refine ld_c (H.out.cell 2 rfl G1.out HC1.out) rfl rfl rfl Try.underlying9 rfl ?_; (try simp only [Act.put, List.setIfInBounds_toArray, List.set_cons_zero, List.set_cons_succ])) | ((with_reducible refine zqg (N := 29) rfl ?_); refine H.out.conv_sb rfl Try.underlying9 Try.underlying22 Try.underlying5 rfl rfl ?_; intro g29 c29 w29 H1 B29; clear H; have H := H1; clear H1; (try simp only [Act.put, List.setIfInBounds_toArray, List.set_cons_zero, List.set_cons_succ])) | ((with_reducible refine zqg (N := 35) rfl ?_); refine ld_c ((B29.out b HBT.out).1) rfl rfl rfl Try.underlying5 rfl ?_; (try simp only [Act.put, List.setIfInBounds_toArray, List.set_cons_zero, List.set_cons_succ])) | ((with_reducible refine gate_store (t := 5) (p := 39) rfl ?_); refine st_c (R := fun w1 => Az (Hq lo w w1 [.set (fun k => k = g29) w1, .box g8 (#[.int .i64 0, .slice none 0 0, .slice none 0 0, .slice none 0 0, .slice none 0 0]) 28, .box g4 (cD ⟨some ⟨g1, 0, none⟩, c1, A2, c2, some ⟨g3, 0, none⟩, c3, A4, c4⟩ D) 28, .set S w, .set (fun k => ¬ S k ∧ lo ≤ k ∧ k < w.heap.size) w]) ∧ Az (BytesAt w1 g29 ((bytesOf tx).set b (bits .xor .u8 ((bytesOf tx)[b]?.getD 0) (by_ % 256))))) sizeS5 (B29.out b HBT.out).1 (B29.out b HBT.out).2 rfl rfl rfl rfl rfl rfl ⟨⟨H.out.set_cell 0 rfl rfl _⟩, ⟨B29.out.put HBT.out⟩⟩ ?_; intro ws4 H1; clear H; have H := H1.1; have B39 := H1.2; clear H1; (try simp only [Act.put, List.setIfInBounds_toArray, List.set_cons_zero, List.set_cons_succ])) | ((with_reducible refine zqg (N := 41) rfl ?_); refine H.out.ld_cell 2 rfl 1 (v := .slice (some ⟨g1, 0, none⟩) D.l1.length c1) rfl rfl rfl rfl Try.underlying24 rfl ?_; (try simp only [Act.put, List.setIfInBounds_toArray, List.set_cons_zero, List.set_cons_succ])) | ((with_reducible refine zqg (N := 44) rfl ?_); refine conv_bs rfl Try.underlying9 Try.underlying22 Try.underlying5 rfl rfl (by rw [List.length_set]; simp [bytesOf]) B39.out ?_; (try simp only [Act.put, List.setIfInBounds_toArray, List.set_cons_zero, List.set_cons_succ])) | ((with_reducible refine gate_store (t := 9) (p := 45) rfl ?_); refine st_c (R := fun w1 => Az (Hq lo w w1 [.set (fun k => k = g29) ws4, .box g8 (#[.int .i64 0, .slice none 0 0, .slice none 0 0, .slice none 0 0, .slice none 0 0]) 28, .box g4 (cD ⟨some ⟨g1, 0, none⟩, c1, A2, c2, some ⟨g3, 0, none⟩, c3, A4, c4⟩ D) 28, .set S w1, .set (fun k => ¬ S k ∧ lo ≤ k ∧ k < w.heap.size) w]) ∧ Az (OwS w1 lo S ⟨some ⟨g1, 0, none⟩, c1, A2, c2, some ⟨g3, 0, none⟩, c3, A4, c4⟩ { D with l1 := D.l1.set a (strOfNums ((bytesOf tx).set b (bits .xor .u8 ((bytesOf tx)[b]?.getD 0) (by_ % 256)))) })) sizeS9 (H.out.cell 3 rfl G1.out HC1.out) (H.out.frz 3 rfl G1.out F1.out) rfl rfl rfl rfl rfl rfl ⟨⟨H.out.set_cell 3 rfl G1.out _⟩, ⟨(H.out.ows 3 rfl HO.out).put1 a _⟩⟩ ?_; intro ws5 H1; clear H; have H := H1.1; have O45 := H1.2; clear H1; (try simp only [Act.put, List.setIfInBounds_toArray, List.set_cons_zero, List.set_cons_succ])) | ((with_reducible refine zqg (N := 47) rfl ?_); refine H.out.ld_cell 2 rfl 3 (v := .slice (some ⟨g3, 0, none⟩) D.l3.length c3) rfl rfl rfl rfl Try.underlying25 rfl ?_; (try simp only [Act.put, List.setIfInBounds_toArray, List.set_cons_zero, List.set_cons_succ])) | ((with_reducible refine gate_store (t := 4) (p := 49) rfl ?_); have hc3 := ows_cell3 O45.out HA3.out; refine st_c (R := fun w1 => Az (Hq lo w w1 [.set (fun k => k = g29) ws4, .box g8 (#[.int .i64 0, .slice none 0 0, .slice none 0 0, .slice none 0 0, .slice none 0 0]) 28, .box g4 (cD ⟨some ⟨g1, 0, none⟩, c1, A2, c2, some ⟨g3, 0, none⟩, c3, A4, c4⟩ D) 28, .set S w1, .set (fun k => ¬ S k ∧ lo ≤ k ∧ k < w.heap.size) w]) ∧ Az (OwS w1 lo S ⟨some ⟨g1, 0, none⟩, c1, A2, c2, some ⟨g3, 0, none⟩, c3, A4, c4⟩ { D with l1 := D.l1.set a (strOfNums ((bytesOf tx).set b (bits .xor .u8 ((bytesOf tx)[b]?.getD 0) (by_ % 256)))), l3 := D.l3.set a true })) sizeS4 hc3.1 hc3.2 rfl rfl rfl rfl rfl rfl ⟨⟨H.out.set_cell 3 rfl G3.out _⟩, ⟨O45.out.put3 a _⟩⟩ ?_; clear hc3; intro ws6 H1; clear H; have H := H1.1; have O49 := H1.2; clear H1; (try simp only [Act.put, List.setIfInBounds_toArray, List.set_cons_zero, List.set_cons_succ])) | ((with_reducible refine zqg (N := 50) rfl ?_); refine H.out.ld_row 2 rfl rfl rfl rfl Try.underlying28 rfl hs28 ?_; (try simp only [Act.put, List.setIfInBounds_toArray, List.set_cons_zero, List.set_cons_succ])) | ((with_reducible refine gate_store (t := 28) (p := 8) rfl ?_); refine H.out.st_row 1 rfl rfl (x := .tmp 8) (y := .tmp 50) rfl rfl rfl (cD ⟨some ⟨g1, 0, none⟩, c1, A2, c2, some ⟨g3, 0, none⟩, c3, A4, c4⟩ D) rfl hs28 rfl (cD_one1 _ _) ?_; intro ws7 H1; clear H; have H := H1; clear H1))
  have e := HTX.out
  subst e
  exact bodyPost_ret (results_cell_row rfl _ _ g8 28 _ (0, 0) _ rfl (H.out.box 1 rfl) Try.underlying28 rfl (by kernel_rfl)) rfl ⟨rfl, H.out.ows 3 rfl O49.out, H.out.bel, H.out.kept 4 rfl⟩
set_option maxHeartbeats 8000000 in
set_option maxRecDepth 100000 in
theorem qspoil_same {w : World} {lo : Nat} {S : Nat → Prop} {M : Mm} {D : Dd} {a : Nat} {b by_ : Int} (h : OwS w lo S M D) (hS : ∀ k, S k → lo ≤ k ∧ k < w.heap.size) (ha1 : a < D.l1.length) (ha3 : a < D.l3.length) (hl : D.l1.length ≤ 1048576) (hl3 : D.l3.length ≤ 1048576) (hz : (D.l1.getD a ByteArray.empty).toList.isEmpty = true ∨ ((D.l1.getD a ByteArray.empty).toList.isEmpty = false ∧ D.l3.getD a false = true)) :
    Calls Try.prog 87 #[.agg (cD M D), .int .i64 (a : Int), .int .i64 b, .int .i64 by_] w fun e w' => e = .returned (.agg (cD M D)) ∧ OwS w' lo S M D ∧ Below lo w w' ∧ ∀ k, k < w.heap.size → ¬ S k → w'.heap[k]? = w.heap[k]? := by
  have hs28 := sizeL28
  obtain ⟨A1, c1, A2, c2, A3, c3, A4, c4⟩ := M
  obtain ⟨g1, e1, p1, q1, _⟩ := own_addr h.o1 (by omega)
  have hg1 : S g1 := q1.1
  obtain ⟨g3, e3, p3, q3, _⟩ := own_addr h.o3 (by omega)
  have hg3 : S g3 := q3
  simp only at e1 e3
  subst e1
  subst e3
  obtain ⟨tx, htx⟩ : ∃ t, t = D.l1.getD a ByteArray.empty := ⟨_, rfl⟩
  have H := Az.mk (Hq.start_set w (Nat.le_of_lt (Nat.lt_of_le_of_lt (hS g1 hg1).1 (hS g1 hg1).2)) hS)
  have hc1 : w.cell? ⟨g1, a, none⟩ = some (.string tx) := by
    rw [(ows_cell1 h ha1).1, htx]
    simp [rdOf]
  rw [← htx] at hz
  have a0 := eq_true (show (0 : Int) ≤ (a : Int) by omega)
  have a1 := eq_true (show (a : Int) < (D.l1.length : Int) by omega)
  have a3 := eq_true (show (a : Int) < (D.l3.length : Int) by omega)
  have HC1 := Az.mk hc1
  have HA3 := Az.mk ha3
  have G1 := Az.mk hg1
  have G3 := Az.mk hg3
  have HO := Az.mk h
  rcases hz with hne | ⟨hne, hsp⟩
  · clear h hl hl3 htx hc1 hg1 hg3 p1 q1 p3 q3 hS ha1 ha3
    go_enter Try.func87, Try.ntmps87
    go_wp2_with (first | ((with_reducible refine zqg (N := 4) rfl ?_); refine H.out.bx rfl (cD ⟨some ⟨g1, 0, none⟩, c1, A2, c2, some ⟨g3, 0, none⟩, c3, A4, c4⟩ D) 28 ?hr ?_; (case hr => first | (go_simp; done) | (go_simp; rfl)); intro g4 w4 H1; clear H; have H := H1; clear H1; (try simp only [Act.put, List.setIfInBounds_toArray, List.set_cons_zero, List.set_cons_succ])) | ((with_reducible refine zqg (N := 8) rfl ?_); refine H.out.bx rfl (#[.int .i64 0, .slice none 0 0, .slice none 0 0, .slice none 0 0, .slice none 0 0]) 28 ?hr ?_; (case hr => first | (go_simp; done) | (go_simp; rfl)); intro g8 w8 H1; clear H; have H := H1; clear H1; (try simp only [Act.put, List.setIfInBounds_toArray, List.set_cons_zero, List.set_cons_succ])) | ((with_reducible refine zqg (N := 11) rfl ?_); refine H.out.ld_cell 1 rfl 1 (v := .slice (some ⟨g1, 0, none⟩) D.l1.length c1) rfl rfl rfl rfl Try.underlying24 rfl ?_; (try simp only [Act.put, List.setIfInBounds_toArray, List.set_cons_zero, List.set_cons_succ])) | ((with_reducible refine zqg (N := 14) rfl ?_); refine ld_c (H.out.cell 2 rfl G1.out HC1.out) rfl rfl rfl Try.underlying9 rfl ?_; (try simp only [Act.put, List.setIfInBounds_toArray, List.set_cons_zero, List.set_cons_succ])) | ((with_reducible refine zqg (N := 18) rfl ?_); refine gate_guard (by rfl) ?_; dsimp only; refine H.out.ld_cell 1 rfl 3 (v := .slice (some ⟨g3, 0, none⟩) D.l3.length c3) rfl rfl rfl rfl Try.underlying25 rfl ?_; (try simp only [Act.put, List.setIfInBounds_toArray, List.set_cons_zero, List.set_cons_succ])) | ((with_reducible refine zqg (N := 21) rfl ?_); refine gate_guard (by rfl) ?_; dsimp only; refine ld_c (H.out.cell 2 rfl G3.out HC3.out) rfl rfl rfl Try.underlying4 rfl ?_; (try simp only [Act.put, List.setIfInBounds_toArray, List.set_cons_zero, List.set_cons_succ])) | ((with_reducible refine zqg (N := 23) rfl ?_); refine H.out.ld_row 1 rfl rfl rfl rfl Try.underlying28 rfl hs28 ?_; (try simp only [Act.put, List.setIfInBounds_toArray, List.set_cons_zero, List.set_cons_succ])) | ((with_reducible refine gate_store (t := 28) (p := 8) rfl ?_); refine H.out.st_row 0 rfl rfl (x := .tmp 8) (y := .tmp 23) rfl rfl rfl (cD ⟨some ⟨g1, 0, none⟩, c1, A2, c2, some ⟨g3, 0, none⟩, c3, A4, c4⟩ D) rfl hs28 rfl (cD_one1 _ _) ?_; intro ws7 H1; clear H; have H := H1; clear H1))
    exact bodyPost_ret (results_cell_row rfl _ _ g8 28 _ (0, 0) _ rfl (H.out.box 0 rfl) Try.underlying28 rfl (by kernel_rfl)) rfl ⟨rfl, H.out.ows 2 rfl HO.out, H.out.bel, H.out.kept 3 rfl⟩
  · have hc3 : w.cell? ⟨g3, a, none⟩ = some (.bool true) := by
      have e : rdOf false D.l3 (a : Int) = true := by simpa [rdOf] using hsp
      rw [(ows_cell3 h ha3).1, e]
    have HC3 := Az.mk hc3
    clear h hl hl3 htx hc1 hc3 hg1 hg3 p1 q1 p3 q3 hS ha1 ha3 hsp
    go_enter Try.func87, Try.ntmps87
    go_wp2_with (first | ((with_reducible refine zqg (N := 4) rfl ?_); refine H.out.bx rfl (cD ⟨some ⟨g1, 0, none⟩, c1, A2, c2, some ⟨g3, 0, none⟩, c3, A4, c4⟩ D) 28 ?hr ?_; (case hr => first | (go_simp; done) | (go_simp; rfl)); intro g4 w4 H1; clear H; have H := H1; clear H1; (try simp only [Act.put, List.setIfInBounds_toArray, List.set_cons_zero, List.set_cons_succ])) | ((with_reducible refine zqg (N := 8) rfl ?_); refine H.out.bx rfl (#[.int .i64 0, .slice none 0 0, .slice none 0 0, .slice none 0 0, .slice none 0 0]) 28 ?hr ?_; (case hr => first | (go_simp; done) | (go_simp; rfl)); intro g8 w8 H1; clear H; have H := H1; clear H1; (try simp only [Act.put, List.setIfInBounds_toArray, List.set_cons_zero, List.set_cons_succ])) | ((with_reducible refine zqg (N := 11) rfl ?_); refine H.out.ld_cell 1 rfl 1 (v := .slice (some ⟨g1, 0, none⟩) D.l1.length c1) rfl rfl rfl rfl Try.underlying24 rfl ?_; (try simp only [Act.put, List.setIfInBounds_toArray, List.set_cons_zero, List.set_cons_succ])) | ((with_reducible refine zqg (N := 14) rfl ?_); refine ld_c (H.out.cell 2 rfl G1.out HC1.out) rfl rfl rfl Try.underlying9 rfl ?_; (try simp only [Act.put, List.setIfInBounds_toArray, List.set_cons_zero, List.set_cons_succ])) | ((with_reducible refine zqg (N := 18) rfl ?_); refine gate_guard (by rfl) ?_; dsimp only; refine H.out.ld_cell 1 rfl 3 (v := .slice (some ⟨g3, 0, none⟩) D.l3.length c3) rfl rfl rfl rfl Try.underlying25 rfl ?_; (try simp only [Act.put, List.setIfInBounds_toArray, List.set_cons_zero, List.set_cons_succ])) | ((with_reducible refine zqg (N := 21) rfl ?_); refine gate_guard (by rfl) ?_; dsimp only; refine ld_c (H.out.cell 2 rfl G3.out HC3.out) rfl rfl rfl Try.underlying4 rfl ?_; (try simp only [Act.put, List.setIfInBounds_toArray, List.set_cons_zero, List.set_cons_succ])) | ((with_reducible refine zqg (N := 23) rfl ?_); refine H.out.ld_row 1 rfl rfl rfl rfl Try.underlying28 rfl hs28 ?_; (try simp only [Act.put, List.setIfInBounds_toArray, List.set_cons_zero, List.set_cons_succ])) | ((with_reducible refine gate_store (t := 28) (p := 8) rfl ?_); refine H.out.st_row 0 rfl rfl (x := .tmp 8) (y := .tmp 23) rfl rfl rfl (cD ⟨some ⟨g1, 0, none⟩, c1, A2, c2, some ⟨g3, 0, none⟩, c3, A4, c4⟩ D) rfl hs28 rfl (cD_one1 _ _) ?_; intro ws7 H1; clear H; have H := H1; clear H1))
    exact bodyPost_ret (results_cell_row rfl _ _ g8 28 _ (0, 0) _ rfl (H.out.box 0 rfl) Try.underlying28 rfl (by kernel_rfl)) rfl ⟨rfl, H.out.ows 2 rfl HO.out, H.out.bel, H.out.kept 3 rfl⟩
end Go.Proofs.Ytkgpnloghmbmlaa.Hq
namespace Go.Proofs.Ytkgpnloghmbmlaa.Print
open Go.RowKit Go.Proofs.YtkgpnloghmbmlaaW.PrintWords Go.Proofs.YtkgpnloghmbmlaaW.PrintLast Go.Proofs.YtkgpnloghmbmlaaW.PrintMore
attribute [local go_sem] max2_int min2_int max_two min_two max_three min_three max_four min_four   -- for this text's walks alone
set_option linter.unusedVariables false
set_option linter.unusedSimpArgs false
def IsS104 (w0 W : World) (g : Nat) (f0 : List Int) (f1 : Int) : Prop := ∃ A0 c0, W.heap[g]? = some (.cells #[.slice A0 f0.length c0, .int .i64 f1] 104 (0, 0)) ∧ w0.heap.size ≤ g ∧ Kd.C (Kd.int .u8) w0 A0 f0.length f0
theorem IsS104.grown {w0 W : World} {g : Nat} {f0 : List Int} {f1 : Int} {W1 : World} {row : Option Nat} (h : IsS104 w0 W g f0 f1) (hw : W.grownBy W1 row) (hne : some g ≠ row) : IsS104 w0 W1 g f0 f1 := by
 obtain ⟨A0, c0, hb, hg, hr0⟩ := h
 exact ⟨A0, c0, blk_grown hb hw hne, hg, hr0⟩
theorem IsS104.kept {w0 W : World} {g : Nat} {f0 : List Int} {f1 : Int} {W1 : World} {S : Nat → Prop} (h : IsS104 w0 W g f0 f1) (hk : Kept W W1 S) (hne : ¬ S g) : IsS104 w0 W1 g f0 f1 := by
 obtain ⟨A0, c0, hb, hg, hr0⟩ := h
 exact ⟨A0, c0, blk_kept hb hk hne, hg, hr0⟩
theorem IsS104.below {w0 W : World} {g : Nat} {f0 : List Int} {f1 : Int} {W1 : World} (h : IsS104 w0 W g f0 f1) (hw : Below W.heap.size W W1) : IsS104 w0 W1 g f0 f1 := h.grown (grown_of_below hw none) (by simp)
theorem IsS104.alloc {w0 W : World} {g : Nat} {f0 : List Int} {f1 : Int} (h : IsS104 w0 W g f0 f1) (o : Obj) : IsS104 w0 (W.alloc o) g f0 f1 := h.below (zq2 (Below.refl _ _) o)
theorem IsS104.drewN {w0 W : World} {g : Nat} {f0 : List Int} {f1 : Int} (h : IsS104 w0 W g f0 f1) (m : Nat) : IsS104 w0 (W.drewN m) g f0 f1 := h
theorem IsS104.drew {w0 W : World} {g : Nat} {f0 : List Int} {f1 : Int} (h : IsS104 w0 W g f0 f1) : IsS104 w0 W.drew g f0 f1 := h
theorem IsS104.at_ {w0 W : World} {g : Nat} {f0 : List Int} {f1 : Int} {w' : World} {m : Nat} (hq : W.drewN m = w') (h : IsS104 w0 W g f0 f1) : IsS104 w0 w' g f0 f1 := by subst hq; exact IsS104.drewN h m
theorem IsS104.apart {w0 W : World} {g : Nat} {f0 : List Int} {f1 : Int} {α : Type} {d : Kd α} {e : Nat} {base : Nat} {ok : Nat → Prop} {v : Value} {xs : List α} (h : IsS104 w0 W g f0 f1) (ho : d.R e W base ok v xs) (ht : ∀ q, q ∈ e :: d.E → q ≠ 104) : d.R e W base (fun k => ok k ∧ k ≠ g) v xs := by
 obtain ⟨A0, c0, hb, hg, hr0⟩ := h
 exact Kd.R_types ho hb ht
theorem IsS104.own_ne {w0 W : World} {g : Nat} {f0 : List Int} {f1 : Int} {α : Type} {d : Kd α} {e : Nat} {base : Nat} {ok : Nat → Prop} {v : Value} {xs : List α} (h : IsS104 w0 W g f0 f1) (ho : d.R e W base ok v xs) (ht : e ≠ 104) : some g ≠ v.ownBlock := by
 obtain ⟨A0, c0, hb, hg, hr0⟩ := h
 exact Kd.R_ne ho hb ht
theorem IsS104.lt {w0 W : World} {g : Nat} {f0 : List Int} {f1 : Int} (h : IsS104 w0 W g f0 f1) : g < W.heap.size := by
 obtain ⟨A0, c0, hb, hg, hr0⟩ := h
 exact blk_lt hb
theorem IsS104.ge {w0 W : World} {g : Nat} {f0 : List Int} {f1 : Int} (h : IsS104 w0 W g f0 f1) : w0.heap.size ≤ g := by
 obtain ⟨A0, c0, hb, hg, hr0⟩ := h
 exact hg
theorem IsS104.far {w0 W : World} {g : Nat} {f0 : List Int} {f1 : Int} {p : Addr} (h : IsS104 w0 W g f0 f1) (hne : g ≠ p.block) (u : Value) : IsS104 w0 (W.setCell p u) g f0 f1 := by
 obtain ⟨A0, c0, hb, hg, hr0⟩ := h
 exact ⟨A0, c0, blk_far hb hne u, hg, hr0⟩
theorem cellS104_0 {W : World} {g : Nat} {A0 : Option Addr} {c0 : Nat} {f0 : List Int} {f1 : Int} (h : W.heap[g]? = some (.cells #[.slice A0 f0.length c0, .int .i64 f1] 104 (0, 0))) : W.cell? ⟨g, 0, none⟩ = some (.slice A0 f0.length c0) := (zq4 h 0).trans rfl
theorem cellS104_1 {W : World} {g : Nat} {A0 : Option Addr} {c0 : Nat} {f0 : List Int} {f1 : Int} (h : W.heap[g]? = some (.cells #[.slice A0 f0.length c0, .int .i64 f1] 104 (0, 0))) : W.cell? ⟨g, 1, none⟩ = some (.int .i64 f1) := (zq4 h 1).trans rfl
theorem IsS104.set_1 {w0 W : World} {g : Nat} {f0 : List Int} {f1 : Int} (h : IsS104 w0 W g f0 f1) (x : Int) : IsS104 w0 (W.setCell ⟨g, 1, none⟩ (.int .i64 x)) g f0 x := by
 obtain ⟨A0, c0, hb, hg, hr0⟩ := h
 exact ⟨A0, c0, by simpa using blk_set hb 1 (.int .i64 x), hg, hr0⟩
def spec_l6Open.f (l0 : List Int) : Option (List Int × Int) := if (l0.length : Int) > 2000 then (if 2000 ≤ (l0.length : Int) then (some (l0.take 2000, 0)) else (none)) else (some (l0, 0))
set_option maxHeartbeats 8000000 in
set_option maxRecDepth 100000 in
theorem spec_l6Open.calls (A0 : Option Addr) (c0 : Nat) (l0 : List Int) (r1 : List Int) (r2 : Int) (w0 w : World) (hB : Below w0.heap.size w0 w) (hr0 : Kd.C (Kd.int .u8) w0 A0 l0.length l0) (hc0 : l0.length ≤ c0) (h : spec_l6Open.f l0 = some (r1, r2)) :
  Calls Try.prog 47 #[.slice A0 l0.length c0] w fun e w' => ∃ g_ : Nat, e = .returned (.pointer (some ⟨g_, 0, none⟩)) ∧ IsS104 w0 w' g_ r1 r2 ∧ Below w0.heap.size w0 w' ∧ Below w.heap.size w w' := by
 have hu104 := Try.underlying104
 have HR0 := Az.mk hr0
 have HC0 := Az.mk hc0
 clear hr0 hc0
 have HBW := Az.mk (Below.refl w.heap.size w)
 have HW0 := Az.mk hB.size
 have HB := Az.mk hB
 clear hB
 have H : (if (l0.length : Int) > 2000 then (if 2000 ≤ (l0.length : Int) then (some (l0.take 2000, 0)) else (none)) else (some (l0, 0))) = some (r1, r2) := h
 clear h
 by_cases c2 : (l0.length : Int) > 2000
 ·rw [if_pos c2] at H
  have c2b0 : decide (2000 < (l0.length : Int)) = true := decide_eq_true c2
  have c2b1 : decide (2000 < l0.length) = true := decide_eq_true (by omega)
  clear c2
  by_cases c3 : 2000 ≤ (l0.length : Int)
  ·rw [if_pos c3] at H
   have c3b0 := eq_true c3
   have c3b1 : decide (2000 ≤ (l0.length : Int)) = true := decide_eq_true c3
   clear c3
   simp only [Option.some.injEq, Prod.mk.injEq] at H
   obtain ⟨rfl, rfl⟩ := H
   obtain ⟨i04, hi04, _, hsz4, _⟩ := info_parts info5
   obtain ⟨hcut4, hA4, hC4⟩ := print_take_of (P := Try.prog) (Value.int .u8) 0 22 5 .i64 Try.underlying22 hi04 hsz4 A0 c0 l0 2000 (by omega) (of_decide_eq_true (by first | (with_reducible assumption) | assumption)) HC0.out
   have HR415 := Az.mk (Kd.C_of_reads (h1 := fun _ => rfl) (hA4 _ (Kd.reads_of_C HR0.out)))
   have HC415 := Az.mk hC4
   clear hA4 hC4 hi04 hsz4
   go_enter Try.func47, Try.ntmps47
   go_wp2_with (first | ((with_reducible refine zqg (N := 10) rfl ?_); refine zqb ?hg (N := 10) ?hd (cs := #[.slice A0 (l0.take 2000).length c0, .int .i64 0]) (t := 104) ?hr ?_; (case hd => rfl); (case hg => rfl); (case hr => first | (go_simp; done) | (go_simp; rfl)); intro gb416 hg w5 hbox hb; have n0_ := Az.mk (below_step HBW.out hb); have n1_ := Az.mk (below_step (by repeat (first | (with_reducible first | exact HB.out | apply zq2 | apply zq1 | apply zqd) | exact HB.out)) hb); have n2_ := Az.mk (hbox); have n3_ := Az.mk ((by rw [hg]; exact (below_size (by repeat (first | (with_reducible first | exact HBW.out | apply zq2 | apply zq1 | apply zqd) | exact HBW.out))) : w.heap.size ≤ gb416)); have n4_ := Az.mk ((Nat.le_trans HW0.out (by rw [hg]; exact (below_size (by repeat (first | (with_reducible first | exact HBW.out | apply zq2 | apply zq1 | apply zqd) | exact HBW.out))) : w.heap.size ≤ gb416) : w0.heap.size ≤ gb416)); clear HBW; clear HB; have HBW := n0_; have HB := n1_; have BK416 := n2_; have GW416 := n3_; have GE416 := n4_; clear n0_ n1_ n2_ n3_ n4_; clear hb hbox hg))
   go_ret
   exact ⟨_, rfl, (show IsS104 w0 _ gb416 (l0.take 2000) 0 from ⟨_, _, by (with_reducible repeat (first | refine zq6 ?_ _ | refine zq8 ?_ | refine zq7 ?_ _)); exact BK416.out, GE416.out, HR415.out⟩), by repeat (first | (with_reducible first | exact HB.out | apply zq2 | apply zq1 | apply zqd | refine zq3 ?_ GE416.out) | exact HB.out), by repeat (first | (with_reducible first | exact HBW.out | apply zq2 | apply zq1 | apply zqd | refine zq3 ?_ GW416.out) | exact HBW.out)⟩
  ·rw [if_neg c3] at H
   exact absurd H (by simp)
 ·rw [if_neg c2] at H
  have c2b0 : decide (2000 < (l0.length : Int)) = false := decide_eq_false c2
  have c2b1 : decide (2000 < l0.length) = false := decide_eq_false (by omega)
  clear c2
  simp only [Option.some.injEq, Prod.mk.injEq] at H
  obtain ⟨rfl, rfl⟩ := H
  go_enter Try.func47, Try.ntmps47
  go_wp2_with (first | ((with_reducible refine zqg (N := 10) rfl ?_); refine zqb ?hg (N := 10) ?hd (cs := #[.slice A0 l0.length c0, .int .i64 0]) (t := 104) ?hr ?_; (case hd => rfl); (case hg => rfl); (case hr => first | (go_simp; done) | (go_simp; rfl)); intro gb417 hg w6 hbox hb; have n0_ := Az.mk (below_step HBW.out hb); have n1_ := Az.mk (below_step (by repeat (first | (with_reducible first | exact HB.out | apply zq2 | apply zq1 | apply zqd) | exact HB.out)) hb); have n2_ := Az.mk (hbox); have n3_ := Az.mk ((by rw [hg]; exact (below_size (by repeat (first | (with_reducible first | exact HBW.out | apply zq2 | apply zq1 | apply zqd) | exact HBW.out))) : w.heap.size ≤ gb417)); have n4_ := Az.mk ((Nat.le_trans HW0.out (by rw [hg]; exact (below_size (by repeat (first | (with_reducible first | exact HBW.out | apply zq2 | apply zq1 | apply zqd) | exact HBW.out))) : w.heap.size ≤ gb417) : w0.heap.size ≤ gb417)); clear HBW; clear HB; have HBW := n0_; have HB := n1_; have BK417 := n2_; have GW417 := n3_; have GE417 := n4_; clear n0_ n1_ n2_ n3_ n4_; clear hb hbox hg))
  go_ret
  exact ⟨_, rfl, (show IsS104 w0 _ gb417 l0 0 from ⟨_, _, by (with_reducible repeat (first | refine zq6 ?_ _ | refine zq8 ?_ | refine zq7 ?_ _)); exact BK417.out, GE417.out, HR0.out⟩), by repeat (first | (with_reducible first | exact HB.out | apply zq2 | apply zq1 | apply zqd | refine zq3 ?_ GE417.out) | exact HB.out), by repeat (first | (with_reducible first | exact HBW.out | apply zq2 | apply zq1 | apply zqd | refine zq3 ?_ GW417.out) | exact HBW.out)⟩
end Go.Proofs.Ytkgpnloghmbmlaa.Print
namespace Go.Proofs.Ytkgpnloghmbmlaa.Print
open Go.RowKit Go.Proofs.YtkgpnloghmbmlaaW.PrintWords Go.Proofs.YtkgpnloghmbmlaaW.PrintLast Go.Proofs.YtkgpnloghmbmlaaW.PrintMore
attribute [local go_sem] max2_int min2_int max_two min_two max_three min_three max_four min_four   -- for this text's walks alone
set_option linter.unusedVariables false
set_option linter.unusedSimpArgs false
def spec_l6Rd_pick.j0 : Nat → Int → Bool → List Int → Int → Option (Int × Int)
 | 0, _, _, _, _ => none
 | k + 1, x1, x24, x1000, x1001 => if x24 = true then (some (0, x1001)) else (if (wrap64 (x1001 - 1)) < (x1000.length : Int) then (if 0 ≤ (wrap64 (x1001 - 1)) then (if x1 = 0 then (none) else (some (Int.tmod (wrap64 (rd x1000 (wrap64 (x1001 - 1)))) x1, x1001))) else (none)) else (if (x1000.length : Int) = 0 then (none) else (if 0 ≤ (Int.tmod (wrap64 (x1001 - 1)) (x1000.length : Int)) then (if (Int.tmod (wrap64 (x1001 - 1)) (x1000.length : Int)) < (x1000.length : Int) then (if 0 ≤ (Int.tmod (wrap64 ((wrap64 ((wrap64 (x1001 - 1)) * 7)) + 3)) (x1000.length : Int)) then (if (Int.tmod (wrap64 ((wrap64 ((wrap64 (x1001 - 1)) * 7)) + 3)) (x1000.length : Int)) < (x1000.length : Int) then (if x1 = 0 then (none) else (some (Int.tmod (Go.bits .xor .i64 (wrap64 ((wrap64 ((wrap64 ((wrap64 ((wrap64 (rd x1000 (Int.tmod (wrap64 (x1001 - 1)) (x1000.length : Int)))) * 131)) + (wrap64 ((wrap64 (rd x1000 (Int.tmod (wrap64 ((wrap64 ((wrap64 (x1001 - 1)) * 7)) + 3)) (x1000.length : Int)))) * 1117)))) + (wrap64 ((wrap64 (x1001 - 1)) * 29)))) + (wrap64 ((wrap64 (Int.tdiv (wrap64 (x1001 - 1)) (x1000.length : Int))) * 53)))) (wrap64 (Int.tdiv (wrap64 ((wrap64 ((wrap64 ((wrap64 ((wrap64 (rd x1000 (Int.tmod (wrap64 (x1001 - 1)) (x1000.length : Int)))) * 131)) + (wrap64 ((wrap64 (rd x1000 (Int.tmod (wrap64 ((wrap64 ((wrap64 (x1001 - 1)) * 7)) + 3)) (x1000.length : Int)))) * 1117)))) + (wrap64 ((wrap64 (x1001 - 1)) * 29)))) + (wrap64 ((wrap64 (Int.tdiv (wrap64 (x1001 - 1)) (x1000.length : Int))) * 53)))) 64))) x1, x1001))) else (none)) else (none)) else (none)) else (none))))
def spec_l6Rd_pick.f (k : Nat) (s0_0 : List Int) (s0_1 : Int) (a1 : Int) : Option (Int × Int) := if a1 < 1 then (spec_l6Rd_pick.j0 k a1 true s0_0 (wrap64 (s0_1 + 1))) else (spec_l6Rd_pick.j0 k a1 ((s0_0.length : Int) == 0) s0_0 (wrap64 (s0_1 + 1)))
set_option maxHeartbeats 8000000 in
set_option maxRecDepth 100000 in
theorem spec_l6Rd_pick.calls (k : Nat) (g : Nat) (s0_0 : List Int) (s0_1 : Int) (a1 : Int) (r1 : Int) (r2 : Int) (w0 w : World) (hI : IsS104 w0 w g s0_0 s0_1) (hB : Below w0.heap.size w0 w) (h : spec_l6Rd_pick.f k s0_0 s0_1 a1 = some (r1, r2)) :
  Calls Try.prog 48 #[.pointer (some ⟨g, 0, none⟩), .int .i64 a1] w fun e w' => e = .returned (.int .i64 r1) ∧ IsS104 w0 w' g s0_0 r2 ∧ Below w0.heap.size w0 w' ∧ KeepBut w w' g none := by
 have HI0 := Az.mk hI
 have HK := Az.mk (KeepBut.refl w g none)
 have HL := Az.mk hB.size
 clear hI
 have HW0 := Az.mk hB.size
 have HB := Az.mk hB
 clear hB
 have H : (if a1 < 1 then (spec_l6Rd_pick.j0 k a1 true s0_0 (wrap64 (s0_1 + 1))) else (spec_l6Rd_pick.j0 k a1 ((s0_0.length : Int) == 0) s0_0 (wrap64 (s0_1 + 1)))) = some (r1, r2) := h
 clear h
 have HC3 := Az.mk H
 clear H
 obtain ⟨ASz4_0, cSz4_0, HGz4, hgz4, HSz4_0⟩ := HI0.out
 have hcz4_0 := cellS104_0 HGz4
 have hcz4_1 := cellS104_1 HGz4
 have hfz4_1 := zq5 HGz4 1
 clear HGz4 hgz4
 go_enter Try.func48, Try.ntmps48
 go_upto_region 2 with (fail)
 repeat (go_quiet (fail); go_upto_region 2 with (fail))
 go_cut [24] (fun v24 wc => ∃ (kq : Nat) (x24_2 : Bool), v24 = .bool x24_2 ∧ Az (spec_l6Rd_pick.j0 kq a1 x24_2 s0_0 (wrap64 (s0_1 + 1)) = some (r1, r2)) ∧ Az (kq ≤ k) ∧ Az (IsS104 w0 wc g s0_0 (wrap64 (s0_1 + 1))) ∧ Az (KeepBut w wc g none) ∧ Az (Below w0.heap.size w0 wc))
 case first =>
  have H := HC3.out
  clear HC3
  by_cases c5 : a1 < 1
  ·rw [if_pos c5] at H
   have c5b0 : decide (a1 < 1) = true := decide_eq_true c5
   clear c5
   (first | rw [c5b0] | (simp only [i64_w, i32_w]; rw [c5b0]) | skip)
   have H' := Az.mk H
   clear H
   go_wp2
   repeat (go_quiet (fail); try go_wp2)
   go_meet
   case rel => exact ⟨_, (true), (by first | rfl | (simp; done) | (simp [*]; done)), H', ⟨by first | omega | exact Nat.le_refl _⟩, ⟨by repeat (first | (with_reducible first | exact HI0.out | apply IsS104.alloc | apply IsS104.drewN | apply IsS104.drew | apply IsS104.set_1) | exact HI0.out)⟩, ⟨by repeat (first | (with_reducible first | exact HK.out | apply KeepBut.set_ | apply keep_drewN | apply keep_drew | apply keep_alloc) | exact HK.out)⟩, ⟨by repeat (first | (with_reducible first | exact HB.out | apply zq2 | apply zq1 | apply zqd | refine zq3 ?_ (IsS104.ge HI0.out)) | exact HB.out)⟩⟩
  ·rw [if_neg c5] at H
   have c5b0 : decide (a1 < 1) = false := decide_eq_false c5
   clear c5
   (first | rw [c5b0] | (simp only [i64_w, i32_w]; rw [c5b0]) | skip)
   have H' := Az.mk H
   clear H
   obtain ⟨ASz6_0, cSz6_0, HGz6, hgz6, HSz6_0⟩ := HI0.out
   have hcz6_0 := cellS104_0 HGz6
   have hcz6_1 := cellS104_1 HGz6
   have hfz6_1 := zq5 HGz6 1
   clear HGz6 hgz6
   go_wp2
   repeat (go_quiet (fail); try go_wp2)
   go_meet
   case rel => exact ⟨_, (((s0_0.length : Int) == 0)), (by first | rfl | (simp; done) | (simp [*]; done)), H', ⟨by first | omega | exact Nat.le_refl _⟩, ⟨by repeat (first | (with_reducible first | exact HI0.out | apply IsS104.alloc | apply IsS104.drewN | apply IsS104.drew | apply IsS104.set_1) | exact HI0.out)⟩, ⟨by repeat (first | (with_reducible first | exact HK.out | apply KeepBut.set_ | apply keep_drewN | apply keep_drew | apply keep_alloc) | exact HK.out)⟩, ⟨by repeat (first | (with_reducible first | exact HB.out | apply zq2 | apply zq1 | apply zqd | refine zq3 ?_ (IsS104.ge HI0.out)) | exact HB.out)⟩⟩
 case rest =>
  clear HC3
  try clear p2
  try clear c4
  try clear c5
  try clear c5b0
  try clear p6
  try clear hcz4_0
  try clear hcz4_1
  try clear hcz6_0
  try clear hcz6_1
  try clear hfz4_1
  try clear hfz6_1
  obtain ⟨kq, x24_2, rfl, HA, HJ2, HI0, HK, HB⟩ := hcut
  cases kq with
  | zero => exact absurd HA.out (by simp [spec_l6Rd_pick.j0])
  | succ kj2 =>
   have H := HA.out
   clear HA
   simp only [spec_l6Rd_pick.j0] at H
   by_cases c7 : x24_2 = true
   ·subst c7
    have H1 : (some (0, (wrap64 (s0_1 + 1)))) = some (r1, r2) := by rw [if_pos rfl] at H; exact H
    clear H
    have H := H1
    clear H1
    simp only [Option.some.injEq, Prod.mk.injEq] at H
    obtain ⟨rfl, rfl⟩ := H
    go_wp2
    repeat (go_quiet (fail); try go_wp2)
    go_ret
    exact ⟨by first | rfl | (simp [errW_none, errW_some] <;> rfl) | (simp [*, errW_none, errW_some] <;> rfl), by repeat (first | (with_reducible first | exact HI0.out | apply IsS104.alloc | apply IsS104.drewN | apply IsS104.drew | apply IsS104.set_1) | exact HI0.out), by repeat (first | (with_reducible first | exact HB.out | apply zq2 | apply zq1 | apply zqd | refine zq3 ?_ (IsS104.ge HI0.out)) | exact HB.out), by repeat (first | (with_reducible first | exact HK.out | apply KeepBut.set_ | apply keep_drewN | apply keep_drew | apply keep_alloc) | exact HK.out)⟩
   ·replace c7 := Bool.eq_false_iff.mpr c7
    subst c7
    have H1 : (if (wrap64 ((wrap64 (s0_1 + 1)) - 1)) < (s0_0.length : Int) then (if 0 ≤ (wrap64 ((wrap64 (s0_1 + 1)) - 1)) then (if a1 = 0 then (none) else (some (Int.tmod (wrap64 (rd s0_0 (wrap64 ((wrap64 (s0_1 + 1)) - 1)))) a1, (wrap64 (s0_1 + 1))))) else (none)) else (if (s0_0.length : Int) = 0 then (none) else (if 0 ≤ (Int.tmod (wrap64 ((wrap64 (s0_1 + 1)) - 1)) (s0_0.length : Int)) then (if (Int.tmod (wrap64 ((wrap64 (s0_1 + 1)) - 1)) (s0_0.length : Int)) < (s0_0.length : Int) then (if 0 ≤ (Int.tmod (wrap64 ((wrap64 ((wrap64 ((wrap64 (s0_1 + 1)) - 1)) * 7)) + 3)) (s0_0.length : Int)) then (if (Int.tmod (wrap64 ((wrap64 ((wrap64 ((wrap64 (s0_1 + 1)) - 1)) * 7)) + 3)) (s0_0.length : Int)) < (s0_0.length : Int) then (if a1 = 0 then (none) else (some (Int.tmod (Go.bits .xor .i64 (wrap64 ((wrap64 ((wrap64 ((wrap64 ((wrap64 (rd s0_0 (Int.tmod (wrap64 ((wrap64 (s0_1 + 1)) - 1)) (s0_0.length : Int)))) * 131)) + (wrap64 ((wrap64 (rd s0_0 (Int.tmod (wrap64 ((wrap64 ((wrap64 ((wrap64 (s0_1 + 1)) - 1)) * 7)) + 3)) (s0_0.length : Int)))) * 1117)))) + (wrap64 ((wrap64 ((wrap64 (s0_1 + 1)) - 1)) * 29)))) + (wrap64 ((wrap64 (Int.tdiv (wrap64 ((wrap64 (s0_1 + 1)) - 1)) (s0_0.length : Int))) * 53)))) (wrap64 (Int.tdiv (wrap64 ((wrap64 ((wrap64 ((wrap64 ((wrap64 (rd s0_0 (Int.tmod (wrap64 ((wrap64 (s0_1 + 1)) - 1)) (s0_0.length : Int)))) * 131)) + (wrap64 ((wrap64 (rd s0_0 (Int.tmod (wrap64 ((wrap64 ((wrap64 ((wrap64 (s0_1 + 1)) - 1)) * 7)) + 3)) (s0_0.length : Int)))) * 1117)))) + (wrap64 ((wrap64 ((wrap64 (s0_1 + 1)) - 1)) * 29)))) + (wrap64 ((wrap64 (Int.tdiv (wrap64 ((wrap64 (s0_1 + 1)) - 1)) (s0_0.length : Int))) * 53)))) 64))) a1, (wrap64 (s0_1 + 1))))) else (none)) else (none)) else (none)) else (none)))) = some (r1, r2) := by rw [if_neg (show ¬ (false = true) by decide)] at H; exact H
    clear H
    have H := H1
    clear H1
    by_cases c8 : (wrap64 ((wrap64 (s0_1 + 1)) - 1)) < (s0_0.length : Int)
    ·rw [if_pos c8] at H
     have c8b0 : decide ((wrap64 ((wrap64 (s0_1 + 1)) - 1)) < (s0_0.length : Int)) = true := decide_eq_true c8
     clear c8
     obtain ⟨ji9, hji9⟩ : ∃ j_ : Int, (wrap64 ((wrap64 (s0_1 + 1)) - 1)) = j_ := ⟨_, rfl⟩
     replace H : (if 0 ≤ (ji9) then (if a1 = 0 then (none) else (some (Int.tmod (wrap64 (rd s0_0 (ji9))) a1, (wrap64 (s0_1 + 1))))) else (none)) = some (r1, r2) := by first | (rw [hji9] at H; exact H) | (simp only [hji9] at H ⊢; exact H)
     (try rw [hji9] at c8b0)
     have hji9w : (IntKind.i64.wrap ((wrap64 (s0_1 + 1)) - 1)) = ji9 := (i64_w _).trans hji9
     by_cases c10 : 0 ≤ (ji9)
     ·rw [if_pos c10] at H
      have c10b0 : decide (0 ≤ (ji9)) = true := decide_eq_true c10
      clear c10
      by_cases c11 : a1 = 0
      ·rw [if_pos c11] at H
       exact absurd H (by simp)
      ·rw [if_neg c11] at H
       have c11b0 : (a1 == 0) = false := beq_eq_false_iff_ne.mpr c11
       have c11b1 : (a1 != 0) = true := bne_iff_ne.mpr c11
       simp only [Option.some.injEq, Prod.mk.injEq] at H
       obtain ⟨rfl, rfl⟩ := H
       obtain ⟨ASz12_0, cSz12_0, HGz12, hgz12, HSz12_0⟩ := HI0.out
       have hcz12_0 := cellS104_0 HGz12
       have hcz12_1 := cellS104_1 HGz12
       have hfz12_1 := zq5 HGz12 1
       clear HGz12 hgz12
       have p418 : 0 ≤ ((ji9) : Int) := of_decide_eq_true (by first | (with_reducible assumption) | assumption)
       have q418 : (ji9) < (s0_0.length : Int) := of_decide_eq_true (by first | (with_reducible assumption) | assumption)
       obtain ⟨ad418, e418, hx418_0⟩ := Kd.at_int HSz12_0 (ji9) p418 q418
       cases e418
       replace hx418_0 := pw_cell_below HB.out hx418_0
       replace p418 := eq_true p418
       replace q418 := eq_true q418
       go_wp2
       repeat (go_quiet (fail); try go_wp2)
       go_ret
       exact ⟨by first | rfl | (simp [errW_none, errW_some] <;> rfl) | (simp only [← hji9]; first | rfl | (simp [errW_none, errW_some] <;> rfl)) | (simp [*, errW_none, errW_some] <;> rfl), by repeat (first | (with_reducible first | exact HI0.out | apply IsS104.alloc | apply IsS104.drewN | apply IsS104.drew | apply IsS104.set_1) | exact HI0.out), by repeat (first | (with_reducible first | exact HB.out | apply zq2 | apply zq1 | apply zqd | refine zq3 ?_ (IsS104.ge HI0.out)) | exact HB.out), by repeat (first | (with_reducible first | exact HK.out | apply KeepBut.set_ | apply keep_drewN | apply keep_drew | apply keep_alloc) | exact HK.out)⟩
     ·rw [if_neg c10] at H
      exact absurd H (by simp)
    ·rw [if_neg c8] at H
     have c8b0 : decide ((wrap64 ((wrap64 (s0_1 + 1)) - 1)) < (s0_0.length : Int)) = false := decide_eq_false c8
     clear c8
     by_cases c13 : (s0_0.length : Int) = 0
     ·rw [if_pos c13] at H
      exact absurd H (by simp)
     ·rw [if_neg c13] at H
      have c13b0 : ((s0_0.length : Int) == 0) = false := beq_eq_false_iff_ne.mpr c13
      have c13b1 : ((s0_0.length : Int) != 0) = true := bne_iff_ne.mpr c13
      have c13b2 : ¬ (s0_0 = []) := fun h_ => c13 (by rw [h_]; rfl)
      obtain ⟨ji14, hji14⟩ : ∃ j_ : Int, (Int.tmod (wrap64 ((wrap64 (s0_1 + 1)) - 1)) (s0_0.length : Int)) = j_ := ⟨_, rfl⟩
      replace H : (if 0 ≤ (ji14) then (if (ji14) < (s0_0.length : Int) then (if 0 ≤ (Int.tmod (wrap64 ((wrap64 ((wrap64 ((wrap64 (s0_1 + 1)) - 1)) * 7)) + 3)) (s0_0.length : Int)) then (if (Int.tmod (wrap64 ((wrap64 ((wrap64 ((wrap64 (s0_1 + 1)) - 1)) * 7)) + 3)) (s0_0.length : Int)) < (s0_0.length : Int) then (if a1 = 0 then (none) else (some (Int.tmod (Go.bits .xor .i64 (wrap64 ((wrap64 ((wrap64 ((wrap64 ((wrap64 (rd s0_0 (ji14))) * 131)) + (wrap64 ((wrap64 (rd s0_0 (Int.tmod (wrap64 ((wrap64 ((wrap64 ((wrap64 (s0_1 + 1)) - 1)) * 7)) + 3)) (s0_0.length : Int)))) * 1117)))) + (wrap64 ((wrap64 ((wrap64 (s0_1 + 1)) - 1)) * 29)))) + (wrap64 ((wrap64 (Int.tdiv (wrap64 ((wrap64 (s0_1 + 1)) - 1)) (s0_0.length : Int))) * 53)))) (wrap64 (Int.tdiv (wrap64 ((wrap64 ((wrap64 ((wrap64 ((wrap64 (rd s0_0 (ji14))) * 131)) + (wrap64 ((wrap64 (rd s0_0 (Int.tmod (wrap64 ((wrap64 ((wrap64 ((wrap64 (s0_1 + 1)) - 1)) * 7)) + 3)) (s0_0.length : Int)))) * 1117)))) + (wrap64 ((wrap64 ((wrap64 (s0_1 + 1)) - 1)) * 29)))) + (wrap64 ((wrap64 (Int.tdiv (wrap64 ((wrap64 (s0_1 + 1)) - 1)) (s0_0.length : Int))) * 53)))) 64))) a1, (wrap64 (s0_1 + 1))))) else (none)) else (none)) else (none)) else (none)) = some (r1, r2) := by first | (rw [hji14] at H; exact H) | (simp only [hji14] at H ⊢; exact H)
      by_cases c15 : 0 ≤ (ji14)
      ·rw [if_pos c15] at H
       have c15b0 : decide (0 ≤ (ji14)) = true := decide_eq_true c15
       clear c15
       by_cases c16 : (ji14) < (s0_0.length : Int)
       ·rw [if_pos c16] at H
        have c16b0 : decide ((ji14) < (s0_0.length : Int)) = true := decide_eq_true c16
        clear c16
        obtain ⟨ji17, hji17⟩ : ∃ j_ : Int, (Int.tmod (wrap64 ((wrap64 ((wrap64 ((wrap64 (s0_1 + 1)) - 1)) * 7)) + 3)) (s0_0.length : Int)) = j_ := ⟨_, rfl⟩
        replace H : (if 0 ≤ (ji17) then (if (ji17) < (s0_0.length : Int) then (if a1 = 0 then (none) else (some (Int.tmod (Go.bits .xor .i64 (wrap64 ((wrap64 ((wrap64 ((wrap64 ((wrap64 (rd s0_0 (ji14))) * 131)) + (wrap64 ((wrap64 (rd s0_0 (ji17))) * 1117)))) + (wrap64 ((wrap64 ((wrap64 (s0_1 + 1)) - 1)) * 29)))) + (wrap64 ((wrap64 (Int.tdiv (wrap64 ((wrap64 (s0_1 + 1)) - 1)) (s0_0.length : Int))) * 53)))) (wrap64 (Int.tdiv (wrap64 ((wrap64 ((wrap64 ((wrap64 ((wrap64 (rd s0_0 (ji14))) * 131)) + (wrap64 ((wrap64 (rd s0_0 (ji17))) * 1117)))) + (wrap64 ((wrap64 ((wrap64 (s0_1 + 1)) - 1)) * 29)))) + (wrap64 ((wrap64 (Int.tdiv (wrap64 ((wrap64 (s0_1 + 1)) - 1)) (s0_0.length : Int))) * 53)))) 64))) a1, (wrap64 (s0_1 + 1))))) else (none)) else (none)) = some (r1, r2) := by first | (rw [hji17] at H; exact H) | (simp only [hji17] at H ⊢; exact H)
        by_cases c18 : 0 ≤ (ji17)
        ·rw [if_pos c18] at H
         have c18b0 : decide (0 ≤ (ji17)) = true := decide_eq_true c18
         clear c18
         by_cases c19 : (ji17) < (s0_0.length : Int)
         ·rw [if_pos c19] at H
          have c19b0 : decide ((ji17) < (s0_0.length : Int)) = true := decide_eq_true c19
          clear c19
          by_cases c20 : a1 = 0
          ·rw [if_pos c20] at H
           exact absurd H (by simp)
          ·rw [if_neg c20] at H
           have c20b0 : (a1 == 0) = false := beq_eq_false_iff_ne.mpr c20
           have c20b1 : (a1 != 0) = true := bne_iff_ne.mpr c20
           simp only [Option.some.injEq, Prod.mk.injEq] at H
           obtain ⟨rfl, rfl⟩ := H
           obtain ⟨ASz21_0, cSz21_0, HGz21, hgz21, HSz21_0⟩ := HI0.out
           have hcz21_0 := cellS104_0 HGz21
           have hcz21_1 := cellS104_1 HGz21
           have hfz21_1 := zq5 HGz21 1
           clear HGz21 hgz21
           have p419 : 0 ≤ ((ji14) : Int) := of_decide_eq_true (by first | (with_reducible assumption) | assumption)
           have q419 : (ji14) < (s0_0.length : Int) := of_decide_eq_true (by first | (with_reducible assumption) | assumption)
           obtain ⟨ad419, e419, hx419_0⟩ := Kd.at_int HSz21_0 (ji14) p419 q419
           cases e419
           replace hx419_0 := pw_cell_below HB.out hx419_0
           replace p419 := eq_true p419
           replace q419 := eq_true q419
           have p420 : 0 ≤ ((ji17) : Int) := of_decide_eq_true (by first | (with_reducible assumption) | assumption)
           have q420 : (ji17) < (s0_0.length : Int) := of_decide_eq_true (by first | (with_reducible assumption) | assumption)
           obtain ⟨ad420, e420, hx420_0⟩ := Kd.at_int HSz21_0 (ji17) p420 q420
           obtain rfl : ad419 = ad420 := (by injection e420)
           replace hx420_0 := pw_cell_below HB.out hx420_0
           replace p420 := eq_true p420
           replace q420 := eq_true q420
           go_wp2
           repeat (go_quiet (fail); try go_wp2)
           go_ret
           exact ⟨by first | rfl | (simp [errW_none, errW_some] <;> rfl) | (simp only [← hji14, ← hji17]; first | rfl | (simp [errW_none, errW_some] <;> rfl)) | (simp [*, errW_none, errW_some] <;> rfl), by repeat (first | (with_reducible first | exact HI0.out | apply IsS104.alloc | apply IsS104.drewN | apply IsS104.drew | apply IsS104.set_1) | exact HI0.out), by repeat (first | (with_reducible first | exact HB.out | apply zq2 | apply zq1 | apply zqd | refine zq3 ?_ (IsS104.ge HI0.out)) | exact HB.out), by repeat (first | (with_reducible first | exact HK.out | apply KeepBut.set_ | apply keep_drewN | apply keep_drew | apply keep_alloc) | exact HK.out)⟩
         ·rw [if_neg c19] at H
          exact absurd H (by simp)
        ·rw [if_neg c18] at H
         exact absurd H (by simp)
       ·rw [if_neg c16] at H
        exact absurd H (by simp)
      ·rw [if_neg c15] at H
       exact absurd H (by simp)
end Go.Proofs.Ytkgpnloghmbmlaa.Print
namespace Go.Proofs.Ytkgpnloghmbmlaa.Pure
open Go.RowKit Go.Proofs.Ytkgpnloghmbmlaa.Print Go.Proofs.YtkgpnloghmbmlaaW.PrintWords
structure Code (b : List Int) : Prop where
  byte : ∀ x ∈ b, 0 ≤ x ∧ x < 256
  len : b.length ≤ 2000
theorem tmod_bd {x n : Int} (hx : 0 ≤ x) (hn : 0 < n) : 0 ≤ Int.tmod x n ∧ Int.tmod x n < n :=
  ⟨Int.tmod_nonneg n hx, Int.tmod_lt_of_pos x hn⟩
theorem pick_ev {b : List Int} (hb : Code b) (p n : Int) (hp : 0 ≤ p ∧ p ≤ 1099511627776) (hn : n ≤ 1099511627776) :
    ∃ r, Ev (fun k => spec_l6Rd_pick.f k b p n) (r, p + 1) ∧ 0 ≤ r ∧ (1 ≤ n → r < n) ∧ (n < 1 → r = 0) := by
  have e1 : wrap64 (p + 1) = p + 1 := wrap_ok (by omega)
  have e2 : wrap64 (p + 1 - 1) = p := by rw [wrap_ok (by omega)]; omega
  unfold spec_l6Rd_pick.f
  simp only [e1]
  by_cases h1 : n < 1
  · refine ⟨0, Ev.pos h1 (Ev.next ?_), by omega, by omega, by omega⟩
    simp only [spec_l6Rd_pick.j0]
    exact Ev.pos trivial (Ev.ret rfl)
  · by_cases h0 : (b.length : Int) = 0
    · refine ⟨0, Ev.neg h1 (Ev.next ?_), by omega, by omega, by omega⟩
      simp only [spec_l6Rd_pick.j0]
      exact Ev.pos (by simpa using h0) (Ev.ret rfl)
    · have h0' : ¬ (((b.length : Int) == 0) = true) := by simpa using h0
      have hl : 0 < (b.length : Int) := by omega
      by_cases h2 : p < (b.length : Int)
      · have hr := rd_bd b hb.byte p
        have e3 : wrap64 (rd b p) = rd b p := wrap_ok (by omega)
        have hm := tmod_bd hr.1 (show 0 < n by omega)
        refine ⟨Int.tmod (rd b p) n, Ev.neg h1 (Ev.next ?_), hm.1, fun _ => hm.2, by omega⟩
        simp only [spec_l6Rd_pick.j0, e2, e3]
        exact Ev.neg h0' (Ev.pos h2 (Ev.pos hp.1 (Ev.neg (by omega) (Ev.ret rfl))))
      · have hm1 := tmod_bd hp.1 hl
        have e3 : wrap64 (p * 7) = p * 7 := wrap_ok (by omega)
        have e4 : wrap64 (p * 7 + 3) = p * 7 + 3 := wrap_ok (by omega)
        have hm2 := tmod_bd (x := p * 7 + 3) (by omega) hl
        have hr1 := rd_bd b hb.byte (Int.tmod p (b.length : Int))
        have hr2 := rd_bd b hb.byte (Int.tmod (p * 7 + 3) (b.length : Int))
        generalize hg1 : rd b (Int.tmod p (b.length : Int)) = r1 at hr1
        generalize hg2 : rd b (Int.tmod (p * 7 + 3) (b.length : Int)) = r2 at hr2
        have hd : 0 ≤ Int.tdiv p (b.length : Int) ∧ Int.tdiv p (b.length : Int) ≤ p := by
          rw [Int.tdiv_eq_ediv_of_nonneg hp.1]
          exact ⟨Int.ediv_nonneg hp.1 (by omega), Int.ediv_le_self _ hp.1⟩
        generalize hg3 : Int.tdiv p (b.length : Int) = dd at hd
        have e5 : wrap64 r1 = r1 := wrap_ok (by omega)
        have e6 : wrap64 r2 = r2 := wrap_ok (by omega)
        have e7 : wrap64 (r1 * 131) = r1 * 131 := wrap_ok (by omega)
        have e8 : wrap64 (r2 * 1117) = r2 * 1117 := wrap_ok (by omega)
        have e9 : wrap64 (r1 * 131 + r2 * 1117) = r1 * 131 + r2 * 1117 := wrap_ok (by omega)
        have e10 : wrap64 (p * 29) = p * 29 := wrap_ok (by omega)
        have e11 : wrap64 (r1 * 131 + r2 * 1117 + p * 29) = r1 * 131 + r2 * 1117 + p * 29 := wrap_ok (by omega)
        have e12 : wrap64 dd = dd := wrap_ok (by omega)
        have e13 : wrap64 (dd * 53) = dd * 53 := wrap_ok (by omega)
        obtain ⟨X, hX⟩ : ∃ X, X = r1 * 131 + r2 * 1117 + p * 29 + dd * 53 := ⟨_, rfl⟩
        have hXb : 0 ≤ X ∧ X < 4611686018427387904 := by omega
        have e14 : wrap64 X = X := wrap_ok (by omega)
        have hdX : 0 ≤ Int.tdiv X 64 ∧ Int.tdiv X 64 < 4611686018427387904 := by
          rw [Int.tdiv_eq_ediv_of_nonneg hXb.1]
          omega
        have e15 : wrap64 (Int.tdiv X 64) = Int.tdiv X 64 := wrap_ok (by omega)
        have hx := xor64_bd X (Int.tdiv X 64) hXb hdX
        have hm := tmod_bd hx.1 (show 0 < n by omega)
        refine ⟨Int.tmod (Go.bits .xor .i64 X (Int.tdiv X 64)) n, Ev.neg h1 (Ev.next ?_), hm.1, fun _ => hm.2, by omega⟩
        simp only [spec_l6Rd_pick.j0, e2, e3, e4, hg1, hg2, hg3, e5, e6, e7, e8, e9, e10, e11, e12, e13, ← hX, e14, e15]
        exact Ev.neg h0' (Ev.neg h2 (Ev.neg h0 (Ev.pos hm1.1 (Ev.pos hm1.2 (Ev.pos hm2.1 (Ev.pos hm2.2 (Ev.neg (by omega) (Ev.ret rfl))))))))
theorem open_ev (l : List Int) (h : ∀ x ∈ l, (Lit.int .u8 x).wf = true) : ∃ b, spec_l6Open.f l = some (b, 0) ∧ Code b := by
  have hb := wf_u8 h
  unfold spec_l6Open.f
  by_cases h1 : (l.length : Int) > 2000
  · rw [if_pos h1, if_pos (by omega)]
    exact ⟨_, rfl, fun x hx => hb x (List.mem_of_mem_take hx), by rw [List.length_take]; omega⟩
  · rw [if_neg h1]
    exact ⟨_, rfl, hb, by omega⟩
end Go.Proofs.Ytkgpnloghmbmlaa.Pure
namespace Go.Proofs.Ytkgpnloghmbmlaa.Print
open Go.RowKit Go.Proofs.YtkgpnloghmbmlaaW.PrintWords Go.Proofs.YtkgpnloghmbmlaaW.PrintLast Go.Proofs.YtkgpnloghmbmlaaW.PrintMore
attribute [local go_sem] max2_int min2_int max_two min_two max_three min_three max_four min_four   -- for this text's walks alone
set_option linter.unusedVariables false
set_option linter.unusedSimpArgs false
theorem eqA54 (d : Nat) (w : World) (x0 y0 : Bool) (x1 y1 : Int) (x2 y2 : ByteArray) :
  (Op.equalIn (d + 2) 54 (.agg #[.bool x0, .int .i64 x1, .string x2]) (.agg #[.bool y0, .int .i64 y1, .string y2])).run Try.prog w = .ok (x0 == y0 && (x1 == y1 && (x2.toList == y2.toList))) w := by
 refine eqA_of Try.underlying54 (by kernel_rfl) ?_
 refine eqf_cons (by rfl) (by go_simp; rfl) (by go_simp; rfl) (by go_simp) ?_
 refine eqf_cons (by rfl) (by go_simp; rfl) (by go_simp; rfl) (by go_simp) ?_
 exact eqf_last (by rfl) (by go_simp; rfl) (by go_simp; rfl) (by go_simp)
end Go.Proofs.Ytkgpnloghmbmlaa.Print
namespace Go.Proofs.Ytkgpnloghmbmlaa.Print
open Go.RowKit Go.Proofs.YtkgpnloghmbmlaaW.PrintWords Go.Proofs.YtkgpnloghmbmlaaW.PrintLast Go.Proofs.YtkgpnloghmbmlaaW.PrintMore
attribute [local go_sem] max2_int min2_int max_two min_two max_three min_three max_four min_four   -- for this text's walks alone
set_option linter.unusedVariables false
set_option linter.unusedSimpArgs false
def laws_lpaTexts.l0 : Nat → List ByteArray → List ByteArray → Int → Option (Bool)
 | 0, _, _, _ => none
 | k + 1, x0, x1, x5 => if x5 < (x0.length : Int) then (if 0 ≤ x5 then (if x5 < (x1.length : Int) then (if (rdOf ByteArray.empty x0 x5).toList = (rdOf ByteArray.empty x1 x5).toList then (laws_lpaTexts.l0 k x0 x1 (wrap64 (x5 + 1))) else (some false)) else (none)) else (none)) else (some true)
def laws_lpaTexts.f (k : Nat) (l0 : List ByteArray) (l1 : List ByteArray) : Option (Bool) := if (l0.length : Int) = (l1.length : Int) then (laws_lpaTexts.l0 k l0 l1 0) else (some false)
set_option maxHeartbeats 8000000 in
set_option maxRecDepth 100000 in
theorem laws_lpaTexts.calls (k : Nat) (A0 : Option Addr) (c0 : Nat) (l0 : List ByteArray) (A1 : Option Addr) (c1 : Nat) (l1 : List ByteArray) (r : Bool) (w : World) (hr0 : Kd.C Kd.string w A0 l0.length l0) (hc0 : l0.length ≤ c0) (hr1 : Kd.C Kd.string w A1 l1.length l1) (hc1 : l1.length ≤ c1) (h : laws_lpaTexts.f k l0 l1 = some r) :
  Calls Try.prog 40 #[.slice A0 l0.length c0, .slice A1 l1.length c1] w fun e w' => e = .returned (.bool r) ∧ Drawn0 w w' := by
 have HR0 := Az.mk hr0
 have HC0 := Az.mk hc0
 clear hr0 hc0
 have HR1 := Az.mk hr1
 have HC1 := Az.mk hc1
 clear hr1 hc1
 have H : (if (l0.length : Int) = (l1.length : Int) then (laws_lpaTexts.l0 k l0 l1 0) else (some false)) = some r := h
 clear h
 by_cases c3 : (l0.length : Int) = (l1.length : Int)
 ·rw [if_pos c3] at H
  have c3b0 : ((l0.length : Int) == (l1.length : Int)) = true := beq_iff_eq.mpr c3
  have c3b1 : ((l0.length : Int) != (l1.length : Int)) = false := bne_eq_false_iff_eq.mpr c3
  have c3b2 : (l0.length == l1.length) = true := by first | simpa using c3 | (simp at c3 ⊢; omega)
  clear c3
  have H' := Az.mk H
  clear H
  go_enter Try.func40, Try.ntmps40
  go_wp2
  repeat (go_quiet (fail); try go_wp2)
  go_loopg [5] k (fun kq v5 w' => ∃ (x5_1 : Int), v5 = .int .i64 x5_1 ∧ Az (laws_lpaTexts.l0 kq l0 l1 x5_1 = some r) ∧ Az (kq ≤ k) ∧ Drawn0 w w')
  case atStart => exact ⟨(0), (by first | rfl | (simp; done) | (simp [*]; done)), H', ⟨Nat.le_refl _⟩, by repeat (first | exact Drawn0.refl _ | apply Drawn0.step)⟩
  case round =>
   clear H'
   try clear c1
   try clear p2
   try clear c3
   try clear c3b0
   try clear c3b1
   try clear c3b2
   obtain ⟨x5_1, rfl, HA, HK1, ⟨m1, rfl⟩⟩ := hrel
   cases gk with
   | zero => exact absurd HA.out (by simp [laws_lpaTexts.l0])
   | succ k1 =>
    have H := HA.out
    clear HA
    simp only [laws_lpaTexts.l0] at H
    by_cases c4 : x5_1 < (l0.length : Int)
    ·rw [if_pos c4] at H
     have c4b0 : decide (x5_1 < (l0.length : Int)) = true := decide_eq_true c4
     clear c4
     by_cases c5 : 0 ≤ x5_1
     ·rw [if_pos c5] at H
      have c5b0 : decide (0 ≤ x5_1) = true := decide_eq_true c5
      clear c5
      by_cases c6 : x5_1 < (l1.length : Int)
      ·rw [if_pos c6] at H
       have c6b0 : decide (x5_1 < (l1.length : Int)) = true := decide_eq_true c6
       clear c6
       by_cases c7 : (rdOf ByteArray.empty l0 x5_1).toList = (rdOf ByteArray.empty l1 x5_1).toList
       ·rw [if_pos c7] at H
        have c7b0 : ((rdOf ByteArray.empty l0 x5_1).toList == (rdOf ByteArray.empty l1 x5_1).toList) = true := beq_iff_eq.mpr c7
        have c7b1 : ((rdOf ByteArray.empty l0 x5_1).toList != (rdOf ByteArray.empty l1 x5_1).toList) = false := bne_eq_false_iff_eq.mpr c7
        clear c7
        have H' := Az.mk H
        clear H
        have p426 : 0 ≤ (x5_1 : Int) := of_decide_eq_true (by first | (with_reducible assumption) | assumption)
        have q426 : x5_1 < (l0.length : Int) := of_decide_eq_true (by first | (with_reducible assumption) | assumption)
        obtain ⟨ad426, e426, hx426_0⟩ := Kd.at_string HR0.out x5_1 p426 q426
        cases e426
        replace p426 := eq_true p426
        replace q426 := eq_true q426
        have p427 : 0 ≤ (x5_1 : Int) := of_decide_eq_true (by first | (with_reducible assumption) | assumption)
        have q427 : x5_1 < (l1.length : Int) := of_decide_eq_true (by first | (with_reducible assumption) | assumption)
        obtain ⟨ad427, e427, hx427_0⟩ := Kd.at_string HR1.out x5_1 p427 q427
        cases e427
        replace p427 := eq_true p427
        replace q427 := eq_true q427
        go_wp2
        repeat (go_quiet (fail); try go_wp2)
        go_roundg k1
        case measure => have := HK1.out; omega
        case rel => exact ⟨(wrap64 (x5_1 + 1)), (by first | rfl | (simp; done) | (simp [*]; done)), H', ⟨by have := HK1.out; omega⟩, by repeat (first | exact Drawn0.refl _ | apply Drawn0.step)⟩
       ·rw [if_neg c7] at H
        have c7b0 : ((rdOf ByteArray.empty l0 x5_1).toList == (rdOf ByteArray.empty l1 x5_1).toList) = false := beq_eq_false_iff_ne.mpr c7
        have c7b1 : ((rdOf ByteArray.empty l0 x5_1).toList != (rdOf ByteArray.empty l1 x5_1).toList) = true := bne_iff_ne.mpr c7
        obtain rfl := Option.some.inj H
        have p426 : 0 ≤ (x5_1 : Int) := of_decide_eq_true (by first | (with_reducible assumption) | assumption)
        have q426 : x5_1 < (l0.length : Int) := of_decide_eq_true (by first | (with_reducible assumption) | assumption)
        obtain ⟨ad426, e426, hx426_0⟩ := Kd.at_string HR0.out x5_1 p426 q426
        cases e426
        replace p426 := eq_true p426
        replace q426 := eq_true q426
        have p427 : 0 ≤ (x5_1 : Int) := of_decide_eq_true (by first | (with_reducible assumption) | assumption)
        have q427 : x5_1 < (l1.length : Int) := of_decide_eq_true (by first | (with_reducible assumption) | assumption)
        obtain ⟨ad427, e427, hx427_0⟩ := Kd.at_string HR1.out x5_1 p427 q427
        cases e427
        replace p427 := eq_true p427
        replace q427 := eq_true q427
        go_wp2
        repeat (go_quiet (fail); try go_wp2)
        go_ret
        exact ⟨by first | rfl | (simp; done) | (simp [*]; done), by repeat (first | exact Drawn0.refl _ | apply Drawn0.step)⟩
      ·rw [if_neg c6] at H
       exact absurd H (by simp)
     ·rw [if_neg c5] at H
      exact absurd H (by simp)
    ·rw [if_neg c4] at H
     have c4b0 : decide (x5_1 < (l0.length : Int)) = false := decide_eq_false c4
     clear c4
     obtain rfl := Option.some.inj H
     go_wp2
     repeat (go_quiet (fail); try go_wp2)
     go_ret
     exact ⟨by first | rfl | (simp; done) | (simp [*]; done), by repeat (first | exact Drawn0.refl _ | apply Drawn0.step)⟩
 ·rw [if_neg c3] at H
  have c3b0 : ((l0.length : Int) == (l1.length : Int)) = false := beq_eq_false_iff_ne.mpr c3
  have c3b1 : ((l0.length : Int) != (l1.length : Int)) = true := bne_iff_ne.mpr c3
  have c3b2 : (l0.length == l1.length) = false := by first | simpa using c3 | (simp at c3 ⊢; omega)
  obtain rfl := Option.some.inj H
  go_enter Try.func40, Try.ntmps40
  go_wp2
  repeat (go_quiet (fail); try go_wp2)
  go_ret
  exact ⟨by first | rfl | (simp; done) | (simp [*]; done), by repeat (first | exact Drawn0.refl _ | apply Drawn0.step)⟩
end Go.Proofs.Ytkgpnloghmbmlaa.Print
