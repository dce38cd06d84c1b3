/- Proved, with what follows on it: the row of the law FnRootLess. Conditions: the row's alone. Texts of this session and words that the kit's print laid for this seat, merged and cut by shrink.py, a program of this session. -/
import Derived.Lib.Hide
import Derived.LoopIn
import Derived.LoopNIn
import Derived.Outline
import Derived.OwnWalkIn
import Derived.RangeFuncBound
import Derived.RangeFuncBox
import Derived.RangeFuncCalls
import Derived.RangeFuncFrom
import Derived.RangeFuncLeaves
import Derived.RangeFuncNested
import Derived.Shelf.Abstract
import Derived.Shelf.RegionOpen
import Derived.TacticsInMore
import Derived.WalkKit
import Derived.Test.YtkoimmeghdbodaaZFnRootLessB
set_option linter.unusedVariables false
set_option linter.unusedSimpArgs false
namespace Go.Proofs.Ytkoimmeghdbodaa.Print
open Go.RowKit Go.Proofs.YtkoimmeghdbodaaW.PrintWords Go.Proofs.YtkoimmeghdbodaaW.PrintLast Go.Proofs.YtkoimmeghdbodaaW.PrintMore
attribute [local go_sem] max2_int min2_int max_two min_two max_three min_three max_four min_four
mutual
def impl_PtrOk.j0 : Nat → Int → Bool → Int → Int → List (S37) → Option (Bool)
 | 0, _, _, _, _, _ => none
 | k + 1, x0, x41, x136000, x136001, x136002 => if x41 = true then (some false) else (impl_PtrOk.l0 k x0 x136002 (x136002.length : Int) 0 x136000 x136001 x136002)
def impl_PtrOk.l0 : Nat → Int → List (S37) → Int → Int → Int → Int → List (S37) → Option (Bool)
 | 0, _, _, _, _, _, _, _ => none
 | k + 1, x0, x43, x44, x45, x136000, x136001, x136002 => if x45 < x44 then (if 0 ≤ x45 then (if x45 < (x43.length : Int) then ((impl_Place_ok.f ((rd_T37 x43 x45).f0) ((rd_T37 x43 x45).f1) x0).bind fun t142 => (if t142 = true then (if x45 ≤ (x136002.length : Int) then ((slices_ContainsFunc_Place.f (x136002.take (x45 : Int).toNat) ((rd_T37 x43 x45).f0) ((rd_T37 x43 x45).f1)).bind fun t147 => (if t147 = true then (some false) else (impl_PtrOk.l0 k x0 x43 x44 (wrap64 (x45 + 1)) x136000 x136001 x136002))) else (none)) else (some false))) else (none)) else (none)) else (some true)
end
def impl_PtrOk.f (k : Nat) (a0 : Int) (a1_0 : Int) (a1_1 : Int) (l1_2 : List (S37)) : Option (Bool) := (impl_isPool.f a0).bind fun t136 => (if t136 = true then ((impl_Ptr_none.f a1_0 a1_1 l1_2).bind fun t137 => (if t137 = true then (some true) else (if a1_0 < 1 then (impl_PtrOk.j0 k a0 true a1_0 a1_1 l1_2) else ((impl_textMost.f a0).bind fun t138 => (if a1_0 > t138 then (impl_PtrOk.j0 k a0 true a1_0 a1_1 l1_2) else (if a1_1 < 0 then (impl_PtrOk.j0 k a0 true a1_0 a1_1 l1_2) else (if a1_1 > 1000000000 then (impl_PtrOk.j0 k a0 true a1_0 a1_1 l1_2) else ((impl_columns.f a1_0).bind fun t139 => (impl_PtrOk.j0 k a0 ((l1_2.length : Int) != (wrap64 (t139 + 1))) a1_0 a1_1 l1_2))))))))) else (some false))
def impl_PtrOk.T5 : Bool × List (List Nat × List Nat) := (true, [([], []), ([0], [0]), ([1], [1]), ([2], [2]), ([3], [3]), ([4, 3], [3, 4]), ([3], [3]), ([6, 3, 3], [3, 6]), ([5, 7, 3], [3, 5, 7]), ([3, 8], [3, 8]), ([9, 7], [9]), ([10], [10]), ([11, 10], [10, 11]), ([12, 10], [10, 12]), ([10, 13], [10, 13]), ([14, 10], [14]), ([15], [15]), ([16, 15], [15, 16]), ([17, 15], [15, 17]), ([15, 18], [15, 18]), ([19, 15], [19]), ([20], [20]), ([21, 20], [20, 21]), ([22, 20], [20, 22]), ([20], [20]), ([24, 20], [20, 24]), ([25, 20, 20], [20, 25]), ([26, 20], [20, 26]), ([23, 27, 20], [20, 23, 27]), ([20, 28], [20, 28])])
def impl_PtrOk.B5 : List Nat := [0, 1, 3, 7, 15, 31, 15, 79, 255, 511, 1023, 2047, 4095, 8191, 16383, 32767, 65535, 131071, 262143, 524287, 1048575, 2097151, 4194303, 8388607, 2097151, 18874367, 52428799, 119537663, 268435455, 536870911]
theorem impl_PtrOk.tab5 : rtab .any (opsOf Try.f20 5) = impl_PtrOk.T5 := by kernel_rfl
theorem impl_PtrOk.bits5 : waitsOk impl_PtrOk.T5.2 impl_PtrOk.B5 = true := by kernel_rfl
set_option maxHeartbeats 8000000 in
set_option maxRecDepth 100000 in
theorem impl_PtrOk.calls (k : Nat) (a0 : Int) (a1_0 : Int) (a1_1 : Int) (A1_2 : Option Addr) (c1_2 : Nat) (l1_2 : List (S37)) (r : Bool) (w : World) (hr1_2 : Kd.C k37 w A1_2 l1_2.length l1_2) (hc1_2 : l1_2.length ≤ c1_2) (h : impl_PtrOk.f k a0 a1_0 a1_1 l1_2 = some r) :
  Calls Try.prog 20 #[.int .i64 a0, .agg #[.int .i64 a1_0, .int .i64 a1_1, .slice A1_2 l1_2.length c1_2]] w fun e w' => e = .returned (.bool r) ∧ Below w.heap.size w w' := by
 have hu29 := Try.underlying29
 have hu37 := Try.underlying37
 have HR1_2 := Az.mk hr1_2
 have HC1_2 := Az.mk hc1_2
 clear hr1_2 hc1_2
 have HB := Az.mk (Below.refl w.heap.size w)
 have H : ((impl_isPool.f a0).bind fun t136 => (if t136 = true then ((impl_Ptr_none.f a1_0 a1_1 l1_2).bind fun t137 => (if t137 = true then (some true) else (if a1_0 < 1 then (impl_PtrOk.j0 k a0 true a1_0 a1_1 l1_2) else ((impl_textMost.f a0).bind fun t138 => (if a1_0 > t138 then (impl_PtrOk.j0 k a0 true a1_0 a1_1 l1_2) else (if a1_1 < 0 then (impl_PtrOk.j0 k a0 true a1_0 a1_1 l1_2) else (if a1_1 > 1000000000 then (impl_PtrOk.j0 k a0 true a1_0 a1_1 l1_2) else ((impl_columns.f a1_0).bind fun t139 => (impl_PtrOk.j0 k a0 ((l1_2.length : Int) != (wrap64 (t139 + 1))) a1_0 a1_1 l1_2))))))))) else (some false))) = some r := h
 clear h
 replace H := Option.bind_eq_some_iff.mp H
 obtain ⟨t136, A30, H⟩ := H
 replace H : (if t136 = true then ((impl_Ptr_none.f a1_0 a1_1 l1_2).bind fun t137 => (if t137 = true then (some true) else (if a1_0 < 1 then (impl_PtrOk.j0 k a0 true a1_0 a1_1 l1_2) else ((impl_textMost.f a0).bind fun t138 => (if a1_0 > t138 then (impl_PtrOk.j0 k a0 true a1_0 a1_1 l1_2) else (if a1_1 < 0 then (impl_PtrOk.j0 k a0 true a1_0 a1_1 l1_2) else (if a1_1 > 1000000000 then (impl_PtrOk.j0 k a0 true a1_0 a1_1 l1_2) else ((impl_columns.f a1_0).bind fun t139 => (impl_PtrOk.j0 k a0 ((l1_2.length : Int) != (wrap64 (t139 + 1))) a1_0 a1_1 l1_2))))))))) else (some false)) = some r := H
 have A3 := Az.mk A30
 clear A30
 by_cases c4 : t136 = true
 ·subst c4
  have H1 : ((impl_Ptr_none.f a1_0 a1_1 l1_2).bind fun t137 => (if t137 = true then (some true) else (if a1_0 < 1 then (impl_PtrOk.j0 k a0 true a1_0 a1_1 l1_2) else ((impl_textMost.f a0).bind fun t138 => (if a1_0 > t138 then (impl_PtrOk.j0 k a0 true a1_0 a1_1 l1_2) else (if a1_1 < 0 then (impl_PtrOk.j0 k a0 true a1_0 a1_1 l1_2) else (if a1_1 > 1000000000 then (impl_PtrOk.j0 k a0 true a1_0 a1_1 l1_2) else ((impl_columns.f a1_0).bind fun t139 => (impl_PtrOk.j0 k a0 ((l1_2.length : Int) != (wrap64 (t139 + 1))) a1_0 a1_1 l1_2))))))))) = some r := by rw [if_pos rfl] at H; exact H
  clear H
  have H := H1
  clear H1
  replace H := Option.bind_eq_some_iff.mp H
  obtain ⟨t137, A50, H⟩ := H
  replace H : (if t137 = true then (some true) else (if a1_0 < 1 then (impl_PtrOk.j0 k a0 true a1_0 a1_1 l1_2) else ((impl_textMost.f a0).bind fun t138 => (if a1_0 > t138 then (impl_PtrOk.j0 k a0 true a1_0 a1_1 l1_2) else (if a1_1 < 0 then (impl_PtrOk.j0 k a0 true a1_0 a1_1 l1_2) else (if a1_1 > 1000000000 then (impl_PtrOk.j0 k a0 true a1_0 a1_1 l1_2) else ((impl_columns.f a1_0).bind fun t139 => (impl_PtrOk.j0 k a0 ((l1_2.length : Int) != (wrap64 (t139 + 1))) a1_0 a1_1 l1_2)))))))) = some r := H
  have A5 := Az.mk A50
  clear A50
  by_cases c6 : t137 = true
  ·subst c6
   have H1 : (some true) = some r := by rw [if_pos rfl] at H; exact H
   clear H
   have H := H1
   clear H1
   obtain rfl := Option.some.inj H
   go_enter Try.func20, Try.ntmps20
   go_wp2_with (first | ((with_reducible refine zqg (N := 3) rfl ?_); (try (refine gate_guard (by rfl) ?_; dsimp only)); refine zqb ?hg (N := 3) ?hd (cs := #[.int .i64 a1_0, .int .i64 a1_1, .slice A1_2 l1_2.length c1_2]) (t := 29) ?hr ?_; (case hd => rfl); (case hg => rfl); (case hr => first | (go_simp; done) | (go_simp; rfl)); intro gb135 hg w7 hbox hb; have n0_ := Az.mk (below_step zB hb); have n1_ := Az.mk (hbox); have n2_ := Az.mk ((by rw [hg]; exact (below_size zB) : w.heap.size ≤ gb135)); have n3_ := Az.mk ((by rw [hg]; exact (below_size zB) : w.heap.size ≤ gb135)); clear HB; have HB := n0_; have BK135 := n1_; have GW135 := n2_; have GE135 := n3_; clear n0_ n1_ n2_ n3_; clear hb hbox hg) | ((with_reducible refine gate_callee (f := 55) rfl ?_); refine zq9 (some 8) rfl rfl Try.func55 (by kernel_rfl) rfl #[.int .i64 a0] rfl (by (try simp only [List.map_toArray, List.map_cons, List.map_nil]); first | done | rfl | (simp only [List.length_drop, List.length_take]; rfl)) ?_; (with_reducible refine (impl_isPool.calls a0 true _ A3.out).mono ?_); rintro e w' ⟨rfl, ⟨nd, rfl⟩⟩; refine ⟨_, rfl, ?_⟩; have hcz8_0 : w7.cell? ⟨gb135, 0, none⟩ = some (.int .i64 a1_0) := (zq4 BK135.out 0).trans rfl; have hcz8_1 : w7.cell? ⟨gb135, 1, none⟩ = some (.int .i64 a1_1) := (zq4 BK135.out 1).trans rfl; have hcz8_2 : w7.cell? ⟨gb135, 2, none⟩ = some (.slice A1_2 l1_2.length c1_2) := (zq4 BK135.out 2).trans rfl; have hfz8_0 := zq5 BK135.out 0; have hfz8_1 := zq5 BK135.out 1; have hfz8_2 := zq5 BK135.out 2) | ((with_reducible refine gate_callee (f := 56) rfl ?_); refine zq9 (some 11) rfl rfl Try.func56 (by kernel_rfl) rfl #[.agg #[.int .i64 a1_0, .int .i64 a1_1, .slice A1_2 l1_2.length c1_2]] rfl (by (try simp only [List.map_toArray, List.map_cons, List.map_nil]); first | done | rfl | (simp only [List.length_drop, List.length_take]; rfl)) ?_; (with_reducible refine (impl_Ptr_none.calls a1_0 a1_1 _ _ l1_2 true _ ?side1 ?side2 A5.out).mono ?_); (case side1 => repeat (first | exact (Kd.C_below HR1_2.out (by repeat (first | (with_reducible first | exact HB.out | apply zq2 | apply zq1 | apply zqd | refine zq3 ?_ GE135.out) | exact HB.out))) | (with_reducible refine Kd.C_alloc ?_ _) | (with_reducible refine Kd.C_drewN ?_ _) | (with_reducible refine Kd.C_drew ?_))); (case side2 => exact HC1_2.out); rintro e w9 ⟨rfl, hb⟩; refine ⟨_, rfl, ?_⟩; have n0_ := Az.mk (blk_below (g := gb135) (o := .cells #[.int .i64 a1_0, .int .i64 a1_1, .slice A1_2 l1_2.length c1_2] 29 (0, 0)) (by (with_reducible repeat (first | refine zq6 ?_ _ | refine zq8 ?_ | refine zq7 ?_ _)); exact BK135.out) hb); have n1_ := Az.mk (below_step (by repeat (first | (with_reducible first | exact HB.out | apply zq2 | apply zq1 | apply zqd | refine zq3 ?_ GE135.out) | exact HB.out)) hb); clear BK135; clear HB; have BK135 := n0_; have HB := n1_; clear n0_ n1_; (try clear hb); (try clear hb2); (try clear hk); (try clear hi)))
   go_ret
   exact ⟨by first | rfl | (simp [errW_none, errW_some] <;> rfl) | (simp [*, errW_none, errW_some] <;> rfl), by repeat (first | (with_reducible first | exact HB.out | apply zq2 | apply zq1 | apply zqd | refine zq3 ?_ GE135.out) | exact HB.out)⟩
  ·replace c6 := Bool.eq_false_iff.mpr c6
   subst c6
   have H1 : (if a1_0 < 1 then (impl_PtrOk.j0 k a0 true a1_0 a1_1 l1_2) else ((impl_textMost.f a0).bind fun t138 => (if a1_0 > t138 then (impl_PtrOk.j0 k a0 true a1_0 a1_1 l1_2) else (if a1_1 < 0 then (impl_PtrOk.j0 k a0 true a1_0 a1_1 l1_2) else (if a1_1 > 1000000000 then (impl_PtrOk.j0 k a0 true a1_0 a1_1 l1_2) else ((impl_columns.f a1_0).bind fun t139 => (impl_PtrOk.j0 k a0 ((l1_2.length : Int) != (wrap64 (t139 + 1))) a1_0 a1_1 l1_2))))))) = some r := by rw [if_neg (show ¬ (false = true) by decide)] at H; exact H
   clear H
   have H := H1
   clear H1
   have HC10 := Az.mk H
   clear H
   go_enter Try.func20, Try.ntmps20
   go_upto_region 5 with (first | ((with_reducible refine zqg (N := 3) rfl ?_); (try (refine gate_guard (by rfl) ?_; dsimp only)); refine zqb ?hg (N := 3) ?hd (cs := #[.int .i64 a1_0, .int .i64 a1_1, .slice A1_2 l1_2.length c1_2]) (t := 29) ?hr ?_; (case hd => rfl); (case hg => rfl); (case hr => first | (go_simp; done) | (go_simp; rfl)); intro gb135 hg w11 hbox hb; have n0_ := Az.mk (below_step zB hb); have n1_ := Az.mk (hbox); have n2_ := Az.mk ((by rw [hg]; exact (below_size zB) : w.heap.size ≤ gb135)); have n3_ := Az.mk ((by rw [hg]; exact (below_size zB) : w.heap.size ≤ gb135)); clear HB; have HB := n0_; have BK135 := n1_; have GW135 := n2_; have GE135 := n3_; clear n0_ n1_ n2_ n3_; clear hb hbox hg) | ((with_reducible refine gate_callee (f := 55) rfl ?_); refine zq9 (some 8) rfl rfl Try.func55 (by kernel_rfl) rfl #[.int .i64 a0] rfl (by (try simp only [List.map_toArray, List.map_cons, List.map_nil]); first | done | rfl | (simp only [List.length_drop, List.length_take]; rfl)) ?_; (with_reducible refine (impl_isPool.calls a0 true _ A3.out).mono ?_); rintro e w' ⟨rfl, ⟨nd, rfl⟩⟩; refine ⟨_, rfl, ?_⟩; have hcz12_0 : w11.cell? ⟨gb135, 0, none⟩ = some (.int .i64 a1_0) := (zq4 BK135.out 0).trans rfl; have hcz12_1 : w11.cell? ⟨gb135, 1, none⟩ = some (.int .i64 a1_1) := (zq4 BK135.out 1).trans rfl; have hcz12_2 : w11.cell? ⟨gb135, 2, none⟩ = some (.slice A1_2 l1_2.length c1_2) := (zq4 BK135.out 2).trans rfl; have hfz12_0 := zq5 BK135.out 0; have hfz12_1 := zq5 BK135.out 1; have hfz12_2 := zq5 BK135.out 2) | ((with_reducible refine gate_callee (f := 56) rfl ?_); refine zq9 (some 11) rfl rfl Try.func56 (by kernel_rfl) rfl #[.agg #[.int .i64 a1_0, .int .i64 a1_1, .slice A1_2 l1_2.length c1_2]] rfl (by (try simp only [List.map_toArray, List.map_cons, List.map_nil]); first | done | rfl | (simp only [List.length_drop, List.length_take]; rfl)) ?_; (with_reducible refine (impl_Ptr_none.calls a1_0 a1_1 _ _ l1_2 false _ ?side1 ?side2 A5.out).mono ?_); (case side1 => repeat (first | exact (Kd.C_below HR1_2.out (by repeat (first | (with_reducible first | exact HB.out | apply zq2 | apply zq1 | apply zqd | refine zq3 ?_ GE135.out) | exact HB.out))) | (with_reducible refine Kd.C_alloc ?_ _) | (with_reducible refine Kd.C_drewN ?_ _) | (with_reducible refine Kd.C_drew ?_))); (case side2 => exact HC1_2.out); rintro e w13 ⟨rfl, hb⟩; refine ⟨_, rfl, ?_⟩; have n0_ := Az.mk (blk_below (g := gb135) (o := .cells #[.int .i64 a1_0, .int .i64 a1_1, .slice A1_2 l1_2.length c1_2] 29 (0, 0)) (by (with_reducible repeat (first | refine zq6 ?_ _ | refine zq8 ?_ | refine zq7 ?_ _)); exact BK135.out) hb); have n1_ := Az.mk (below_step (by repeat (first | (with_reducible first | exact HB.out | apply zq2 | apply zq1 | apply zqd | refine zq3 ?_ GE135.out) | exact HB.out)) hb); clear BK135; clear HB; have BK135 := n0_; have HB := n1_; clear n0_ n1_; (try clear hb); (try clear hb2); (try clear hk); (try clear hi)))
   (try simp only [Act.put, zs1, zs2, zs3])
   go_cut [41] (fun v41 wc => ∃ (kq : Nat) (x41_9 : Bool), v41 = .bool x41_9 ∧ Az (impl_PtrOk.j0 kq a0 x41_9 a1_0 a1_1 l1_2 = some r) ∧ Az (kq ≤ k) ∧ Az (wc.heap[gb135]? = some (.cells #[.int .i64 a1_0, .int .i64 a1_1, (.slice A1_2 l1_2.length c1_2)] 29 (0, 0))) ∧ Az (Below w.heap.size w wc))
   case first =>
    have H := HC10.out
    clear HC10
    by_cases c14 : a1_0 < 1
    ·rw [if_pos c14] at H
     have c14b0 : decide (a1_0 < 1) = true := decide_eq_true c14
     clear c14
     (first | rw [c14b0] | (simp only [i64_w, i32_w]; rw [c14b0]) | skip)
     have H' := Az.mk H
     clear H
     try go_wp2
     have n0_ := Az.mk (zq8 BK135.out)
     have n1_ := Az.mk (zqd HB.out)
     clear BK135
     clear HB
     have BK135 := n0_
     have HB := n1_
     clear n0_ n1_
     refine start_ (n := 30) (S := fun w' => w'.cell? ⟨gb135, 0, none⟩ = some (.int .i64 a1_0) ∧ w'.cell? ⟨gb135, 1, none⟩ = some (.int .i64 a1_1) ∧ w'.cell? ⟨gb135, 2, none⟩ = some (.slice A1_2 l1_2.length c1_2)) (ds := []) (bm 30 0) (by kernel_rfl) rfl rfl ⟨(zq4 BK135.out 0).trans rfl, (zq4 BK135.out 1).trans rfl, (zq4 BK135.out 2).trans rfl⟩ (fun hHeld => ?_); refine with_tabW impl_PtrOk.tab5 impl_PtrOk.bits5 (fun HT_ HW_ => ?_)
     generalize w13.drew = w15 at BK135 HB hHeld ⊢
     refine zPT HT_.out 0 (some 12) (bm 30 1) ?_
     refine zUT HT_.out HW_.out 1 (some 13) (bm 30 3) rfl hHeld (Or.inl ⟨by rfl, by rintro w' ⟨s0, s1, s2⟩; go_simp; with_reducible rfl⟩) ?_
     refine zPT HT_.out 2 (some 14) (bm 30 7) ?_
     refine zPT HT_.out 3 (some 15) (bm 30 15) ?_
     refine zOT HT_.out 4 (some 16) (bm 30 31) ?_
     refine zOT HT_.out 5 (some 17) (bm 30 63) ?_
     refine zOT HT_.out 6 (some 18) (bm 30 127) ?_
     refine zOT HT_.out 7 (some 19) (bm 30 255) ?_
     refine zOT HT_.out 8 (some 20) (bm 30 511) ?_
     refine zPT HT_.out 9 (some 21) (bm 30 1023) ?_
     refine zPT HT_.out 10 (some 22) (bm 30 2047) ?_
     refine zOT HT_.out 11 (some 23) (bm 30 4095) ?_
     refine zOT HT_.out 12 (some 24) (bm 30 8191) ?_
     refine zOT HT_.out 13 (some 25) (bm 30 16383) ?_
     refine zPT HT_.out 14 (some 26) (bm 30 32767) ?_
     refine zPT HT_.out 15 (some 27) (bm 30 65535) ?_
     refine zOT HT_.out 16 (some 28) (bm 30 131071) ?_
     refine zOT HT_.out 17 (some 29) (bm 30 262143) ?_
     refine zOT HT_.out 18 (some 30) (bm 30 524287) ?_
     refine zPT HT_.out 19 (some 31) (bm 30 1048575) ?_
     refine zPT HT_.out 20 (some 32) (bm 30 2097151) ?_
     refine zOT HT_.out 21 (some 33) (bm 30 4194303) ?_
     refine zOT HT_.out 22 (some 34) (bm 30 8388607) ?_
     refine zOT HT_.out 23 (some 35) (bm 30 16777215) ?_
     refine zOT HT_.out 24 (some 36) (bm 30 33554431) ?_
     refine zOT HT_.out 25 (some 37) (bm 30 67108863) ?_
     refine zOT HT_.out 26 (some 38) (bm 30 134217727) ?_
     refine zOT HT_.out 27 (some 39) (bm 30 268435455) ?_
     refine zOT HT_.out 28 (some 40) (bm 30 536870911) ?_
     refine zPT HT_.out 29 (some 41) (bm 30 1073741823) ?_
     refine done_ (done_of HT_.out (by kernel_rfl)) ?_
     try go_wp2
     go_meet
     case rel => exact ⟨_, (true), (by first | rfl | (simp; done) | (simp [*]; done)), H', ⟨by first | omega | exact Nat.le_refl _⟩, ⟨by (with_reducible repeat (first | refine zq6 ?_ _ | refine zq8 ?_ | refine zq7 ?_ _)); exact BK135.out⟩, ⟨by repeat (first | (with_reducible first | exact HB.out | apply zq2 | apply zq1 | apply zqd | refine zq3 ?_ GE135.out) | exact HB.out)⟩⟩
    ·rw [if_neg c14] at H
     have c14b0 : decide (a1_0 < 1) = false := decide_eq_false c14
     clear c14
     (first | rw [c14b0] | (simp only [i64_w, i32_w]; rw [c14b0]) | skip)
     replace H := Option.bind_eq_some_iff.mp H
     obtain ⟨t138, A160, H⟩ := H
     replace H : (if a1_0 > t138 then (impl_PtrOk.j0 k a0 true a1_0 a1_1 l1_2) else (if a1_1 < 0 then (impl_PtrOk.j0 k a0 true a1_0 a1_1 l1_2) else (if a1_1 > 1000000000 then (impl_PtrOk.j0 k a0 true a1_0 a1_1 l1_2) else ((impl_columns.f a1_0).bind fun t139 => (impl_PtrOk.j0 k a0 ((l1_2.length : Int) != (wrap64 (t139 + 1))) a1_0 a1_1 l1_2))))) = some r := H
     have A16 := Az.mk A160
     clear A160
     by_cases c17 : a1_0 > t138
     ·rw [if_pos c17] at H
      have c17b0 : decide (t138 < a1_0) = true := decide_eq_true c17
      clear c17
      have H' := Az.mk H
      clear H
      try go_wp2
      have n0_ := Az.mk (zq8 BK135.out)
      have n1_ := Az.mk (zqd HB.out)
      clear BK135
      clear HB
      have BK135 := n0_
      have HB := n1_
      clear n0_ n1_
      refine start_ (n := 30) (S := fun w' => w'.cell? ⟨gb135, 0, none⟩ = some (.int .i64 a1_0) ∧ w'.cell? ⟨gb135, 1, none⟩ = some (.int .i64 a1_1) ∧ w'.cell? ⟨gb135, 2, none⟩ = some (.slice A1_2 l1_2.length c1_2)) (ds := []) (bm 30 0) (by kernel_rfl) rfl rfl ⟨(zq4 BK135.out 0).trans rfl, (zq4 BK135.out 1).trans rfl, (zq4 BK135.out 2).trans rfl⟩ (fun hHeld => ?_); refine with_tabW impl_PtrOk.tab5 impl_PtrOk.bits5 (fun HT_ HW_ => ?_)
      generalize w13.drew = w18 at BK135 HB hHeld ⊢
      refine zPT HT_.out 0 (some 12) (bm 30 1) ?_
      refine zUT HT_.out HW_.out 1 (some 13) (bm 30 3) rfl hHeld (Or.inl ⟨by rfl, by rintro w' ⟨s0, s1, s2⟩; go_simp; with_reducible rfl⟩) ?_
      refine zPT HT_.out 2 (some 14) (bm 30 7) ?_
      refine zPT HT_.out 3 (some 15) (bm 30 15) ?_
      refine zPT HT_.out 4 (some 16) (bm 30 31) ?_
      refine zPT HT_.out 6 (some 18) (bm 30 95) ?_
      refine zUT HT_.out HW_.out 5 (some 17) (bm 30 127) rfl hHeld (Or.inl ⟨by rfl, by rintro w' ⟨s0, s1, s2⟩; go_simp; with_reducible rfl⟩) ?_
      refine one_ (i := 7) (N := some 19) (bm 30 255) rfl rfl (one_of HT_.out (by kernel_rfl)) (by decide) (fun K hK => ?_)
      refine goes_ Try.func57 (by kernel_rfl) rfl #[.int .i64 a0] (by rfl) rfl rfl (by (try simp only [List.map_toArray, List.map_cons, List.map_nil]); first | done | rfl | (simp only [List.length_drop, List.length_take]; rfl)) ?_
      with_reducible refine (impl_textMost.calls a0 t138 _ A16.out).mono ?_
      rintro e w19 ⟨rfl, hb⟩
      refine ⟨_, rfl, ?_⟩
      have n0_ := Az.mk (blk_below (g := gb135) (o := .cells #[.int .i64 a1_0, .int .i64 a1_1, .slice A1_2 l1_2.length c1_2] 29 (0, 0)) (by (with_reducible repeat (first | refine zq6 ?_ _ | refine zq8 ?_ | refine zq7 ?_ _)); exact BK135.out) hb)
      have n1_ := Az.mk (below_step (by repeat (first | (with_reducible first | exact HB.out | apply zq2 | apply zq1 | apply zqd | refine zq3 ?_ GE135.out) | exact HB.out)) hb)
      clear BK135
      clear HB
      have BK135 := n0_
      have HB := n1_
      clear n0_ n1_
      (try clear hb)
      (try clear hb2)
      (try clear hk)
      (try clear hi)
      refine hK.out _ _ ⟨(zq4 BK135.out 0).trans rfl, (zq4 BK135.out 1).trans rfl, (zq4 BK135.out 2).trans rfl⟩ (fun hHeld => ?_)
      clear hK K
      refine norm_ (a' := ?_) ?_ ?_
      rotate_left
      ·show Act.put _ (some 19) _ = _
       simp only [Act.put, zs1, zs2, zs3, i64_w, i32_w]
       rfl
      refine zPT HT_.out 8 (some 20) (bm 30 511) ?_
      refine zPT HT_.out 9 (some 21) (bm 30 1023) ?_
      refine zPT HT_.out 10 (some 22) (bm 30 2047) ?_
      refine zOT HT_.out 11 (some 23) (bm 30 4095) ?_
      refine zOT HT_.out 12 (some 24) (bm 30 8191) ?_
      refine zOT HT_.out 13 (some 25) (bm 30 16383) ?_
      refine zPT HT_.out 14 (some 26) (bm 30 32767) ?_
      refine zPT HT_.out 15 (some 27) (bm 30 65535) ?_
      refine zOT HT_.out 16 (some 28) (bm 30 131071) ?_
      refine zOT HT_.out 17 (some 29) (bm 30 262143) ?_
      refine zOT HT_.out 18 (some 30) (bm 30 524287) ?_
      refine zPT HT_.out 19 (some 31) (bm 30 1048575) ?_
      refine zPT HT_.out 20 (some 32) (bm 30 2097151) ?_
      refine zOT HT_.out 21 (some 33) (bm 30 4194303) ?_
      refine zOT HT_.out 22 (some 34) (bm 30 8388607) ?_
      refine zOT HT_.out 23 (some 35) (bm 30 16777215) ?_
      refine zOT HT_.out 24 (some 36) (bm 30 33554431) ?_
      refine zOT HT_.out 25 (some 37) (bm 30 67108863) ?_
      refine zOT HT_.out 26 (some 38) (bm 30 134217727) ?_
      refine zOT HT_.out 27 (some 39) (bm 30 268435455) ?_
      refine zOT HT_.out 28 (some 40) (bm 30 536870911) ?_
      refine zPT HT_.out 29 (some 41) (bm 30 1073741823) ?_
      refine done_ (done_of HT_.out (by kernel_rfl)) ?_
      try go_wp2
      go_meet
      case rel => exact ⟨_, (true), (by first | rfl | (simp; done) | (simp [*]; done)), H', ⟨by first | omega | exact Nat.le_refl _⟩, ⟨by (with_reducible repeat (first | refine zq6 ?_ _ | refine zq8 ?_ | refine zq7 ?_ _)); exact BK135.out⟩, ⟨by repeat (first | (with_reducible first | exact HB.out | apply zq2 | apply zq1 | apply zqd | refine zq3 ?_ GE135.out) | exact HB.out)⟩⟩
     ·rw [if_neg c17] at H
      have c17b0 : decide (t138 < a1_0) = false := decide_eq_false c17
      clear c17
      by_cases c20 : a1_1 < 0
      ·rw [if_pos c20] at H
       have c20b0 : decide (a1_1 < 0) = true := decide_eq_true c20
       clear c20
       have H' := Az.mk H
       clear H
       try go_wp2
       have n0_ := Az.mk (zq8 BK135.out)
       have n1_ := Az.mk (zqd HB.out)
       clear BK135
       clear HB
       have BK135 := n0_
       have HB := n1_
       clear n0_ n1_
       refine start_ (n := 30) (S := fun w' => w'.cell? ⟨gb135, 0, none⟩ = some (.int .i64 a1_0) ∧ w'.cell? ⟨gb135, 1, none⟩ = some (.int .i64 a1_1) ∧ w'.cell? ⟨gb135, 2, none⟩ = some (.slice A1_2 l1_2.length c1_2)) (ds := []) (bm 30 0) (by kernel_rfl) rfl rfl ⟨(zq4 BK135.out 0).trans rfl, (zq4 BK135.out 1).trans rfl, (zq4 BK135.out 2).trans rfl⟩ (fun hHeld => ?_); refine with_tabW impl_PtrOk.tab5 impl_PtrOk.bits5 (fun HT_ HW_ => ?_)
       generalize w13.drew = w21 at BK135 HB hHeld ⊢
       refine zPT HT_.out 0 (some 12) (bm 30 1) ?_
       refine zUT HT_.out HW_.out 1 (some 13) (bm 30 3) rfl hHeld (Or.inl ⟨by rfl, by rintro w' ⟨s0, s1, s2⟩; go_simp; with_reducible rfl⟩) ?_
       refine zPT HT_.out 2 (some 14) (bm 30 7) ?_
       refine zPT HT_.out 3 (some 15) (bm 30 15) ?_
       refine zPT HT_.out 4 (some 16) (bm 30 31) ?_
       refine zPT HT_.out 6 (some 18) (bm 30 95) ?_
       refine zUT HT_.out HW_.out 5 (some 17) (bm 30 127) rfl hHeld (Or.inl ⟨by rfl, by rintro w' ⟨s0, s1, s2⟩; go_simp; with_reducible rfl⟩) ?_
       refine one_ (i := 7) (N := some 19) (bm 30 255) rfl rfl (one_of HT_.out (by kernel_rfl)) (by decide) (fun K hK => ?_)
       refine goes_ Try.func57 (by kernel_rfl) rfl #[.int .i64 a0] (by rfl) rfl rfl (by (try simp only [List.map_toArray, List.map_cons, List.map_nil]); first | done | rfl | (simp only [List.length_drop, List.length_take]; rfl)) ?_
       with_reducible refine (impl_textMost.calls a0 t138 _ A16.out).mono ?_
       rintro e w22 ⟨rfl, hb⟩
       refine ⟨_, rfl, ?_⟩
       have n0_ := Az.mk (blk_below (g := gb135) (o := .cells #[.int .i64 a1_0, .int .i64 a1_1, .slice A1_2 l1_2.length c1_2] 29 (0, 0)) (by (with_reducible repeat (first | refine zq6 ?_ _ | refine zq8 ?_ | refine zq7 ?_ _)); exact BK135.out) hb)
       have n1_ := Az.mk (below_step (by repeat (first | (with_reducible first | exact HB.out | apply zq2 | apply zq1 | apply zqd | refine zq3 ?_ GE135.out) | exact HB.out)) hb)
       clear BK135
       clear HB
       have BK135 := n0_
       have HB := n1_
       clear n0_ n1_
       (try clear hb)
       (try clear hb2)
       (try clear hk)
       (try clear hi)
       refine hK.out _ _ ⟨(zq4 BK135.out 0).trans rfl, (zq4 BK135.out 1).trans rfl, (zq4 BK135.out 2).trans rfl⟩ (fun hHeld => ?_)
       clear hK K
       refine norm_ (a' := ?_) ?_ ?_
       rotate_left
       ·show Act.put _ (some 19) _ = _
        simp only [Act.put, zs1, zs2, zs3, i64_w, i32_w]
        rfl
       refine zPT HT_.out 8 (some 20) (bm 30 511) ?_
       refine zPT HT_.out 9 (some 21) (bm 30 1023) ?_
       refine zPT HT_.out 10 (some 22) (bm 30 2047) ?_
       refine zPT HT_.out 11 (some 23) (bm 30 4095) ?_
       refine zUT HT_.out HW_.out 12 (some 24) (bm 30 8191) rfl hHeld (Or.inl ⟨by rfl, by rintro w' ⟨s0, s1, s2⟩; go_simp; with_reducible rfl⟩) ?_
       refine zPT HT_.out 13 (some 25) (bm 30 16383) ?_
       refine zPT HT_.out 14 (some 26) (bm 30 32767) ?_
       refine zPT HT_.out 15 (some 27) (bm 30 65535) ?_
       refine zOT HT_.out 16 (some 28) (bm 30 131071) ?_
       refine zOT HT_.out 17 (some 29) (bm 30 262143) ?_
       refine zOT HT_.out 18 (some 30) (bm 30 524287) ?_
       refine zPT HT_.out 19 (some 31) (bm 30 1048575) ?_
       refine zPT HT_.out 20 (some 32) (bm 30 2097151) ?_
       refine zOT HT_.out 21 (some 33) (bm 30 4194303) ?_
       refine zOT HT_.out 22 (some 34) (bm 30 8388607) ?_
       refine zOT HT_.out 23 (some 35) (bm 30 16777215) ?_
       refine zOT HT_.out 24 (some 36) (bm 30 33554431) ?_
       refine zOT HT_.out 25 (some 37) (bm 30 67108863) ?_
       refine zOT HT_.out 26 (some 38) (bm 30 134217727) ?_
       refine zOT HT_.out 27 (some 39) (bm 30 268435455) ?_
       refine zOT HT_.out 28 (some 40) (bm 30 536870911) ?_
       refine zPT HT_.out 29 (some 41) (bm 30 1073741823) ?_
       refine done_ (done_of HT_.out (by kernel_rfl)) ?_
       try go_wp2
       go_meet
       case rel => exact ⟨_, (true), (by first | rfl | (simp; done) | (simp [*]; done)), H', ⟨by first | omega | exact Nat.le_refl _⟩, ⟨by (with_reducible repeat (first | refine zq6 ?_ _ | refine zq8 ?_ | refine zq7 ?_ _)); exact BK135.out⟩, ⟨by repeat (first | (with_reducible first | exact HB.out | apply zq2 | apply zq1 | apply zqd | refine zq3 ?_ GE135.out) | exact HB.out)⟩⟩
      ·rw [if_neg c20] at H
       have c20b0 : decide (a1_1 < 0) = false := decide_eq_false c20
       clear c20
       by_cases c23 : a1_1 > 1000000000
       ·rw [if_pos c23] at H
        have c23b0 : decide (1000000000 < a1_1) = true := decide_eq_true c23
        clear c23
        have H' := Az.mk H
        clear H
        try go_wp2
        have n0_ := Az.mk (zq8 BK135.out)
        have n1_ := Az.mk (zqd HB.out)
        clear BK135
        clear HB
        have BK135 := n0_
        have HB := n1_
        clear n0_ n1_
        refine start_ (n := 30) (S := fun w' => w'.cell? ⟨gb135, 0, none⟩ = some (.int .i64 a1_0) ∧ w'.cell? ⟨gb135, 1, none⟩ = some (.int .i64 a1_1) ∧ w'.cell? ⟨gb135, 2, none⟩ = some (.slice A1_2 l1_2.length c1_2)) (ds := []) (bm 30 0) (by kernel_rfl) rfl rfl ⟨(zq4 BK135.out 0).trans rfl, (zq4 BK135.out 1).trans rfl, (zq4 BK135.out 2).trans rfl⟩ (fun hHeld => ?_); refine with_tabW impl_PtrOk.tab5 impl_PtrOk.bits5 (fun HT_ HW_ => ?_)
        generalize w13.drew = w24 at BK135 HB hHeld ⊢
        refine zPT HT_.out 0 (some 12) (bm 30 1) ?_
        refine zUT HT_.out HW_.out 1 (some 13) (bm 30 3) rfl hHeld (Or.inl ⟨by rfl, by rintro w' ⟨s0, s1, s2⟩; go_simp; with_reducible rfl⟩) ?_
        refine zPT HT_.out 2 (some 14) (bm 30 7) ?_
        refine zPT HT_.out 3 (some 15) (bm 30 15) ?_
        refine zPT HT_.out 4 (some 16) (bm 30 31) ?_
        refine zPT HT_.out 6 (some 18) (bm 30 95) ?_
        refine zUT HT_.out HW_.out 5 (some 17) (bm 30 127) rfl hHeld (Or.inl ⟨by rfl, by rintro w' ⟨s0, s1, s2⟩; go_simp; with_reducible rfl⟩) ?_
        refine one_ (i := 7) (N := some 19) (bm 30 255) rfl rfl (one_of HT_.out (by kernel_rfl)) (by decide) (fun K hK => ?_)
        refine goes_ Try.func57 (by kernel_rfl) rfl #[.int .i64 a0] (by rfl) rfl rfl (by (try simp only [List.map_toArray, List.map_cons, List.map_nil]); first | done | rfl | (simp only [List.length_drop, List.length_take]; rfl)) ?_
        with_reducible refine (impl_textMost.calls a0 t138 _ A16.out).mono ?_
        rintro e w25 ⟨rfl, hb⟩
        refine ⟨_, rfl, ?_⟩
        have n0_ := Az.mk (blk_below (g := gb135) (o := .cells #[.int .i64 a1_0, .int .i64 a1_1, .slice A1_2 l1_2.length c1_2] 29 (0, 0)) (by (with_reducible repeat (first | refine zq6 ?_ _ | refine zq8 ?_ | refine zq7 ?_ _)); exact BK135.out) hb)
        have n1_ := Az.mk (below_step (by repeat (first | (with_reducible first | exact HB.out | apply zq2 | apply zq1 | apply zqd | refine zq3 ?_ GE135.out) | exact HB.out)) hb)
        clear BK135
        clear HB
        have BK135 := n0_
        have HB := n1_
        clear n0_ n1_
        (try clear hb)
        (try clear hb2)
        (try clear hk)
        (try clear hi)
        refine hK.out _ _ ⟨(zq4 BK135.out 0).trans rfl, (zq4 BK135.out 1).trans rfl, (zq4 BK135.out 2).trans rfl⟩ (fun hHeld => ?_)
        clear hK K
        refine norm_ (a' := ?_) ?_ ?_
        rotate_left
        ·show Act.put _ (some 19) _ = _
         simp only [Act.put, zs1, zs2, zs3, i64_w, i32_w]
         rfl
        refine zPT HT_.out 8 (some 20) (bm 30 511) ?_
        refine zPT HT_.out 9 (some 21) (bm 30 1023) ?_
        refine zPT HT_.out 10 (some 22) (bm 30 2047) ?_
        refine zPT HT_.out 11 (some 23) (bm 30 4095) ?_
        refine zUT HT_.out HW_.out 12 (some 24) (bm 30 8191) rfl hHeld (Or.inl ⟨by rfl, by rintro w' ⟨s0, s1, s2⟩; go_simp; with_reducible rfl⟩) ?_
        refine zPT HT_.out 13 (some 25) (bm 30 16383) ?_
        refine zPT HT_.out 14 (some 26) (bm 30 32767) ?_
        refine zPT HT_.out 15 (some 27) (bm 30 65535) ?_
        refine zPT HT_.out 16 (some 28) (bm 30 131071) ?_
        refine zUT HT_.out HW_.out 17 (some 29) (bm 30 262143) rfl hHeld (Or.inl ⟨by rfl, by rintro w' ⟨s0, s1, s2⟩; go_simp; with_reducible rfl⟩) ?_
        refine zPT HT_.out 18 (some 30) (bm 30 524287) ?_
        refine zPT HT_.out 19 (some 31) (bm 30 1048575) ?_
        refine zPT HT_.out 20 (some 32) (bm 30 2097151) ?_
        refine zOT HT_.out 21 (some 33) (bm 30 4194303) ?_
        refine zOT HT_.out 22 (some 34) (bm 30 8388607) ?_
        refine zOT HT_.out 23 (some 35) (bm 30 16777215) ?_
        refine zOT HT_.out 24 (some 36) (bm 30 33554431) ?_
        refine zOT HT_.out 25 (some 37) (bm 30 67108863) ?_
        refine zOT HT_.out 26 (some 38) (bm 30 134217727) ?_
        refine zOT HT_.out 27 (some 39) (bm 30 268435455) ?_
        refine zOT HT_.out 28 (some 40) (bm 30 536870911) ?_
        refine zPT HT_.out 29 (some 41) (bm 30 1073741823) ?_
        refine done_ (done_of HT_.out (by kernel_rfl)) ?_
        try go_wp2
        go_meet
        case rel => exact ⟨_, (true), (by first | rfl | (simp; done) | (simp [*]; done)), H', ⟨by first | omega | exact Nat.le_refl _⟩, ⟨by (with_reducible repeat (first | refine zq6 ?_ _ | refine zq8 ?_ | refine zq7 ?_ _)); exact BK135.out⟩, ⟨by repeat (first | (with_reducible first | exact HB.out | apply zq2 | apply zq1 | apply zqd | refine zq3 ?_ GE135.out) | exact HB.out)⟩⟩
       ·rw [if_neg c23] at H
        have c23b0 : decide (1000000000 < a1_1) = false := decide_eq_false c23
        clear c23
        replace H := Option.bind_eq_some_iff.mp H
        obtain ⟨t139, A260, H⟩ := H
        replace H : (impl_PtrOk.j0 k a0 ((l1_2.length : Int) != (wrap64 (t139 + 1))) a1_0 a1_1 l1_2) = some r := H
        have A26 := Az.mk A260
        clear A260
        have H' := Az.mk H
        clear H
        try go_wp2
        have n0_ := Az.mk (zq8 BK135.out)
        have n1_ := Az.mk (zqd HB.out)
        clear BK135
        clear HB
        have BK135 := n0_
        have HB := n1_
        clear n0_ n1_
        refine start_ (n := 30) (S := fun w' => w'.cell? ⟨gb135, 0, none⟩ = some (.int .i64 a1_0) ∧ w'.cell? ⟨gb135, 1, none⟩ = some (.int .i64 a1_1) ∧ w'.cell? ⟨gb135, 2, none⟩ = some (.slice A1_2 l1_2.length c1_2)) (ds := []) (bm 30 0) (by kernel_rfl) rfl rfl ⟨(zq4 BK135.out 0).trans rfl, (zq4 BK135.out 1).trans rfl, (zq4 BK135.out 2).trans rfl⟩ (fun hHeld => ?_); refine with_tabW impl_PtrOk.tab5 impl_PtrOk.bits5 (fun HT_ HW_ => ?_)
        generalize w13.drew = w27 at BK135 HB hHeld ⊢
        refine zPT HT_.out 0 (some 12) (bm 30 1) ?_
        refine zUT HT_.out HW_.out 1 (some 13) (bm 30 3) rfl hHeld (Or.inl ⟨by rfl, by rintro w' ⟨s0, s1, s2⟩; go_simp; with_reducible rfl⟩) ?_
        refine zPT HT_.out 2 (some 14) (bm 30 7) ?_
        refine zPT HT_.out 3 (some 15) (bm 30 15) ?_
        refine zPT HT_.out 4 (some 16) (bm 30 31) ?_
        refine zPT HT_.out 6 (some 18) (bm 30 95) ?_
        refine zUT HT_.out HW_.out 5 (some 17) (bm 30 127) rfl hHeld (Or.inl ⟨by rfl, by rintro w' ⟨s0, s1, s2⟩; go_simp; with_reducible rfl⟩) ?_
        refine one_ (i := 7) (N := some 19) (bm 30 255) rfl rfl (one_of HT_.out (by kernel_rfl)) (by decide) (fun K hK => ?_)
        refine goes_ Try.func57 (by kernel_rfl) rfl #[.int .i64 a0] (by rfl) rfl rfl (by (try simp only [List.map_toArray, List.map_cons, List.map_nil]); first | done | rfl | (simp only [List.length_drop, List.length_take]; rfl)) ?_
        with_reducible refine (impl_textMost.calls a0 t138 _ A16.out).mono ?_
        rintro e w28 ⟨rfl, hb⟩
        refine ⟨_, rfl, ?_⟩
        have n0_ := Az.mk (blk_below (g := gb135) (o := .cells #[.int .i64 a1_0, .int .i64 a1_1, .slice A1_2 l1_2.length c1_2] 29 (0, 0)) (by (with_reducible repeat (first | refine zq6 ?_ _ | refine zq8 ?_ | refine zq7 ?_ _)); exact BK135.out) hb)
        have n1_ := Az.mk (below_step (by repeat (first | (with_reducible first | exact HB.out | apply zq2 | apply zq1 | apply zqd | refine zq3 ?_ GE135.out) | exact HB.out)) hb)
        clear BK135
        clear HB
        have BK135 := n0_
        have HB := n1_
        clear n0_ n1_
        (try clear hb)
        (try clear hb2)
        (try clear hk)
        (try clear hi)
        refine hK.out _ _ ⟨(zq4 BK135.out 0).trans rfl, (zq4 BK135.out 1).trans rfl, (zq4 BK135.out 2).trans rfl⟩ (fun hHeld => ?_)
        clear hK K
        refine norm_ (a' := ?_) ?_ ?_
        rotate_left
        ·show Act.put _ (some 19) _ = _
         simp only [Act.put, zs1, zs2, zs3, i64_w, i32_w]
         rfl
        refine zPT HT_.out 8 (some 20) (bm 30 511) ?_
        refine zPT HT_.out 9 (some 21) (bm 30 1023) ?_
        refine zPT HT_.out 10 (some 22) (bm 30 2047) ?_
        refine zPT HT_.out 11 (some 23) (bm 30 4095) ?_
        refine zUT HT_.out HW_.out 12 (some 24) (bm 30 8191) rfl hHeld (Or.inl ⟨by rfl, by rintro w' ⟨s0, s1, s2⟩; go_simp; with_reducible rfl⟩) ?_
        refine zPT HT_.out 13 (some 25) (bm 30 16383) ?_
        refine zPT HT_.out 14 (some 26) (bm 30 32767) ?_
        refine zPT HT_.out 15 (some 27) (bm 30 65535) ?_
        refine zPT HT_.out 16 (some 28) (bm 30 131071) ?_
        refine zUT HT_.out HW_.out 17 (some 29) (bm 30 262143) rfl hHeld (Or.inl ⟨by rfl, by rintro w' ⟨s0, s1, s2⟩; go_simp; with_reducible rfl⟩) ?_
        refine zPT HT_.out 18 (some 30) (bm 30 524287) ?_
        refine zPT HT_.out 19 (some 31) (bm 30 1048575) ?_
        refine zPT HT_.out 20 (some 32) (bm 30 2097151) ?_
        refine zPT HT_.out 21 (some 33) (bm 30 4194303) ?_
        refine zPT HT_.out 24 (some 36) (bm 30 20971519) ?_
        refine zUT HT_.out HW_.out 22 (some 34) (bm 30 25165823) rfl hHeld (Or.inl ⟨by rfl, by rintro w' ⟨s0, s1, s2⟩; go_simp; with_reducible rfl⟩) ?_
        refine zPT HT_.out 23 (some 35) (bm 30 33554431) ?_
        refine zUT HT_.out HW_.out 25 (some 37) (bm 30 67108863) rfl hHeld (Or.inl ⟨by rfl, by rintro w' ⟨s0, s1, s2⟩; go_simp; with_reducible rfl⟩) ?_
        refine one_ (i := 26) (N := some 38) (bm 30 134217727) rfl rfl (one_of HT_.out (by kernel_rfl)) (by decide) (fun K hK => ?_)
        refine goes_ Try.func58 (by kernel_rfl) rfl #[.int .i64 a1_0] (by rfl) rfl rfl (by (try simp only [List.map_toArray, List.map_cons, List.map_nil]); first | done | rfl | (simp only [List.length_drop, List.length_take]; rfl)) ?_
        with_reducible refine (impl_columns.calls a1_0 t139 _ A26.out).mono ?_
        rintro e w' ⟨rfl, ⟨nd, rfl⟩⟩
        refine ⟨_, rfl, ?_⟩
        refine hK.out _ _ ⟨(zq4 BK135.out 0).trans rfl, (zq4 BK135.out 1).trans rfl, (zq4 BK135.out 2).trans rfl⟩ (fun hHeld => ?_)
        clear hK K
        refine norm_ (a' := ?_) ?_ ?_
        rotate_left
        ·show Act.put _ (some 38) _ = _
         simp only [Act.put, zs1, zs2, zs3, i64_w, i32_w]
         rfl
        refine zPT HT_.out 27 (some 39) (bm 30 268435455) ?_
        refine zPT HT_.out 28 (some 40) (bm 30 536870911) ?_
        refine zPT HT_.out 29 (some 41) (bm 30 1073741823) ?_
        refine done_ (done_of HT_.out (by kernel_rfl)) ?_
        try go_wp2
        go_meet
        case rel => exact ⟨_, (((l1_2.length : Int) != (wrap64 (t139 + 1)))), (by first | rfl | (simp; done) | (simp [*]; done)), H', ⟨by first | omega | exact Nat.le_refl _⟩, ⟨by (with_reducible repeat (first | refine zq6 ?_ _ | refine zq8 ?_ | refine zq7 ?_ _)); exact BK135.out⟩, ⟨by repeat (first | (with_reducible first | exact HB.out | apply zq2 | apply zq1 | apply zqd | refine zq3 ?_ GE135.out) | exact HB.out)⟩⟩
   case rest =>
    clear HC10
    try clear c1
    try clear c2
    try clear p2
    try clear c5
    try clear p6
    try clear c20
    try clear c20b0
    try clear c23
    try clear c23b0
    obtain ⟨kq, x41_9, rfl, HA, HJ9, BK135, HB⟩ := hcut
    cases kq with
    | zero => exact absurd HA.out (by simp [impl_PtrOk.j0])
    | succ kj9 =>
     have H := HA.out
     clear HA
     simp only [impl_PtrOk.j0] at H
     by_cases c29 : x41_9 = true
     ·subst c29
      have H1 : (some false) = some r := by rw [if_pos rfl] at H; exact H
      clear H
      have H := H1
      clear H1
      obtain rfl := Option.some.inj H
      go_wp2
      go_ret
      exact ⟨by first | rfl | (simp [errW_none, errW_some] <;> rfl) | (simp [*, errW_none, errW_some] <;> rfl), by repeat (first | (with_reducible first | exact HB.out | apply zq2 | apply zq1 | apply zqd | refine zq3 ?_ GE135.out) | exact HB.out)⟩
     ·replace c29 := Bool.eq_false_iff.mpr c29
      subst c29
      have H1 : (impl_PtrOk.l0 kj9 a0 l1_2 (l1_2.length : Int) 0 a1_0 a1_1 l1_2) = some r := by rw [if_neg (show ¬ (false = true) by decide)] at H; exact H
      clear H
      have H := H1
      clear H1
      have H' := Az.mk H
      clear H
      have hcz30_0 : wc.cell? ⟨gb135, 0, none⟩ = some (.int .i64 a1_0) := (zq4 BK135.out 0).trans rfl
      have hcz30_1 : wc.cell? ⟨gb135, 1, none⟩ = some (.int .i64 a1_1) := (zq4 BK135.out 1).trans rfl
      have hcz30_2 : wc.cell? ⟨gb135, 2, none⟩ = some (.slice A1_2 l1_2.length c1_2) := (zq4 BK135.out 2).trans rfl
      have hfz30_0 := zq5 BK135.out 0
      have hfz30_1 := zq5 BK135.out 1
      have hfz30_2 := zq5 BK135.out 2
      go_wp2
      go_loopg [45] kj9 (fun kq v45 w' => ∃ (x45_2 : Int), v45 = .int .i64 x45_2 ∧ Az (impl_PtrOk.l0 kq a0 l1_2 (l1_2.length : Int) x45_2 a1_0 a1_1 l1_2 = some r) ∧ Az (kq ≤ kj9) ∧ Az (w'.heap[gb135]? = some (.cells #[.int .i64 a1_0, .int .i64 a1_1, (.slice A1_2 l1_2.length c1_2)] 29 (0, 0))) ∧ Az (Below w.heap.size w w'))
      case atStart => exact ⟨(0), (by first | rfl | (simp; done) | (simp [*]; done)), H', ⟨Nat.le_refl _⟩, ⟨by (with_reducible repeat (first | refine zq6 ?_ _ | refine zq8 ?_ | refine zq7 ?_ _)); exact BK135.out⟩, ⟨by repeat (first | (with_reducible first | exact HB.out | apply zq2 | apply zq1 | apply zqd | refine zq3 ?_ GE135.out) | exact HB.out)⟩⟩
      case round =>
       clear H'
       try clear c1
       try clear c2
       try clear p2
       try clear c5
       try clear p6
       try clear c20
       try clear c20b0
       try clear c23
       try clear c23b0
       try clear c29
       try clear hcz30_0
       try clear hcz30_1
       try clear hcz30_2
       try clear hfz30_0
       try clear hfz30_1
       try clear hfz30_2
       try clear p2
       try clear p6
       obtain ⟨x45_2, rfl, HA, HK2, BK135, HB⟩ := hrel
       cases gk with
       | zero => exact absurd HA.out (by simp [impl_PtrOk.l0])
       | succ k2 =>
        have H := HA.out
        clear HA
        simp only [impl_PtrOk.l0] at H
        by_cases c31 : x45_2 < (l1_2.length : Int)
        ·rw [if_pos c31] at H
         have c31b0 : decide (x45_2 < (l1_2.length : Int)) = true := decide_eq_true c31
         clear c31
         by_cases c32 : 0 ≤ x45_2
         ·rw [if_pos c32] at H
          have c32b0 : decide (0 ≤ x45_2) = true := decide_eq_true c32
          clear c32
          by_cases c33 : x45_2 < (l1_2.length : Int)
          ·rw [if_pos c33] at H
           have c33b0 : decide (x45_2 < (l1_2.length : Int)) = true := decide_eq_true c33
           clear c33
           replace H := Option.bind_eq_some_iff.mp H
           obtain ⟨t142, A340, H⟩ := H
           replace H : (if t142 = true then (if x45_2 ≤ (l1_2.length : Int) then ((slices_ContainsFunc_Place.f (l1_2.take (x45_2 : Int).toNat) ((rd_T37 l1_2 x45_2).f0) ((rd_T37 l1_2 x45_2).f1)).bind fun t147 => (if t147 = true then (some false) else (impl_PtrOk.l0 k2 a0 l1_2 (l1_2.length : Int) (wrap64 (x45_2 + 1)) a1_0 a1_1 l1_2))) else (none)) else (some false)) = some r := H
           have A34 := Az.mk A340
           clear A340
           by_cases c35 : t142 = true
           ·subst c35
            have H1 : (if x45_2 ≤ (l1_2.length : Int) then ((slices_ContainsFunc_Place.f (l1_2.take (x45_2 : Int).toNat) ((rd_T37 l1_2 x45_2).f0) ((rd_T37 l1_2 x45_2).f1)).bind fun t147 => (if t147 = true then (some false) else (impl_PtrOk.l0 k2 a0 l1_2 (l1_2.length : Int) (wrap64 (x45_2 + 1)) a1_0 a1_1 l1_2))) else (none)) = some r := by rw [if_pos rfl] at H; exact H
            clear H
            have H := H1
            clear H1
            have c36b0 := eq_true (of_decide_eq_true (by first | (with_reducible assumption) | assumption) : 0 ≤ x45_2)
            by_cases c37 : x45_2 ≤ (l1_2.length : Int)
            ·rw [if_pos c37] at H
             have c37b0 := eq_true c37
             have c37b1 : decide (x45_2 ≤ (l1_2.length : Int)) = true := decide_eq_true c37
             clear c37
             obtain ⟨y143, hy143⟩ : ∃ y_ : List (S37), y_ = (l1_2.take (x45_2 : Int).toNat) := ⟨_, rfl⟩
             replace H : ((slices_ContainsFunc_Place.f y143 ((rd_T37 l1_2 x45_2).f0) ((rd_T37 l1_2 x45_2).f1)).bind fun t147 => (if t147 = true then (some false) else (impl_PtrOk.l0 k2 a0 l1_2 (l1_2.length : Int) (wrap64 (x45_2 + 1)) a1_0 a1_1 l1_2))) = some r := by first | (rw [hy143]; with_reducible exact H) | (have H2_ := (Option.bind_some _ _).symm.trans H; rw [hy143]; with_reducible exact H2_) | (have H2_ := (Option.bind_some _ _).symm.trans H; with_reducible exact H2_) | with_reducible exact H | (rw [hy143]; exact H) | exact H
             have Ny143 := Az.mk hy143
             clear hy143
             replace H := Option.bind_eq_some_iff.mp H
             obtain ⟨t147, A380, H⟩ := H
             replace H : (if t147 = true then (some false) else (impl_PtrOk.l0 k2 a0 l1_2 (l1_2.length : Int) (wrap64 (x45_2 + 1)) a1_0 a1_1 l1_2)) = some r := H
             have A38 := Az.mk A380
             clear A380
             by_cases c39 : t147 = true
             ·subst c39
              have H1 : (some false) = some r := by rw [if_pos rfl] at H; exact H
              clear H
              have H := H1
              clear H1
              obtain rfl := Option.some.inj H
              have p140 : 0 ≤ (x45_2 : Int) := of_decide_eq_true (by first | (with_reducible assumption) | assumption)
              have q140 : x45_2 < (l1_2.length : Int) := of_decide_eq_true (by first | (with_reducible assumption) | assumption)
              obtain ⟨ad140, e140, hx140_0, hx140_1⟩ := at_T37 HR1_2.out x45_2 p140 q140
              cases e140
              replace hx140_0 := (HB.out.cell (World.block_lt_of_cell? w _ hx140_0)).trans hx140_0
              replace hx140_1 := (HB.out.cell (World.block_lt_of_cell? w _ hx140_1)).trans hx140_1
              replace p140 := eq_true p140
              replace q140 := eq_true q140
              go_wp2_with (first | ((with_reducible refine zqg (N := 6) rfl ?_); (try (refine gate_guard (by rfl) ?_; dsimp only)); refine zqb ?hg (N := 6) ?hd (cs := #[.int .i64 0, .int .i64 0]) (t := 37) ?hr ?_; (case hd => rfl); (case hg => rfl); (case hr => first | (go_simp; done) | (go_simp; rfl)); intro gb141 hg w40 hbox hb; have n0_ := Az.mk (blk_below (g := gb135) (o := .cells #[.int .i64 a1_0, .int .i64 a1_1, .slice (some ad140) l1_2.length c1_2] 29 (0, 0)) (by (with_reducible repeat (first | refine zq6 ?_ _ | refine zq8 ?_ | refine zq7 ?_ _)); exact BK135.out) hb); have n1_ := Az.mk (below_step (by repeat (first | (with_reducible first | exact HB.out | apply zq2 | apply zq1 | apply zqd | refine zq3 ?_ GE135.out) | exact HB.out)) hb); have n2_ := Az.mk (hbox); have n3_ := Az.mk ((by rw [hg]; exact (below_size (by repeat (first | (with_reducible first | exact HB.out | apply zq2 | apply zq1 | apply zqd | refine zq3 ?_ GE135.out) | exact HB.out))) : w.heap.size ≤ gb141)); have n4_ := Az.mk ((by rw [hg]; exact (below_size (by repeat (first | (with_reducible first | exact HB.out | apply zq2 | apply zq1 | apply zqd | refine zq3 ?_ GE135.out) | exact HB.out))) : w.heap.size ≤ gb141)); have n5_ := Az.mk ((by rw [hg]; exact Nat.ne_of_lt (blk_lt (g := gb135) (o := .cells #[.int .i64 a1_0, .int .i64 a1_1, .slice (some ad140) l1_2.length c1_2] 29 (0, 0)) (by (with_reducible repeat (first | refine zq6 ?_ _ | refine zq8 ?_ | refine zq7 ?_ _)); exact BK135.out)) : gb135 ≠ gb141)); have n6_ := Az.mk ((by rw [hg]; exact Nat.ne_of_gt (blk_lt (g := gb135) (o := .cells #[.int .i64 a1_0, .int .i64 a1_1, .slice (some ad140) l1_2.length c1_2] 29 (0, 0)) (by (with_reducible repeat (first | refine zq6 ?_ _ | refine zq8 ?_ | refine zq7 ?_ _)); exact BK135.out)) : gb141 ≠ gb135)); clear BK135; clear HB; have BK135 := n0_; have HB := n1_; have BK141 := n2_; have GW141 := n3_; have GE141 := n4_; have NB135_141 := n5_; have NB141_135 := n6_; clear n0_ n1_ n2_ n3_ n4_ n5_ n6_; clear hb hbox hg; have hnb41 := NB141_135.out; have hnc41 := NB135_141.out; have hcz42_0 : w40.cell? ⟨gb141, 0, none⟩ = some (.int .i64 0) := (zq4 BK141.out 0).trans rfl; have hcz42_1 : w40.cell? ⟨gb141, 1, none⟩ = some (.int .i64 0) := (zq4 BK141.out 1).trans rfl; have hfz42_0 := zq5 BK141.out 0; have hfz42_1 := zq5 BK141.out 1) | ((with_reducible refine gate_callee (f := 59) rfl ?_); refine zq9 (some 52) rfl rfl Try.func59 (by kernel_rfl) rfl #[.agg #[.int .i64 ((rd_T37 l1_2 x45_2).f0), .int .i64 ((rd_T37 l1_2 x45_2).f1)], .int .i64 a0] rfl (by (try simp only [List.map_toArray, List.map_cons, List.map_nil]); first | done | rfl | (simp only [List.length_drop, List.length_take]; rfl)) ?_; (with_reducible refine (impl_Place_ok.calls ((rd_T37 l1_2 x45_2).f0) ((rd_T37 l1_2 x45_2).f1) a0 true _ A34.out).mono ?_); rintro e w43 ⟨rfl, hb⟩; refine ⟨_, rfl, ?_⟩; have n0_ := Az.mk (blk_below (g := gb135) (o := .cells #[.int .i64 a1_0, .int .i64 a1_1, .slice (some ad140) l1_2.length c1_2] 29 (0, 0)) (by (with_reducible repeat (first | refine zq6 ?_ _ | refine zq8 ?_ | refine zq7 ?_ _)); refine blk_far ?_ NB135_141.out _; (with_reducible repeat (first | refine zq6 ?_ _ | refine zq8 ?_ | refine zq7 ?_ _)); refine blk_far ?_ NB135_141.out _; (with_reducible repeat (first | refine zq6 ?_ _ | refine zq8 ?_ | refine zq7 ?_ _)); exact BK135.out) hb); have n1_ := Az.mk (blk_below (g := gb141) (o := .cells #[.int .i64 ((rd_T37 l1_2 x45_2).f0), .int .i64 ((rd_T37 l1_2 x45_2).f1)] 37 (0, 0)) (by (with_reducible repeat (first | refine zq6 ?_ _ | refine zq8 ?_ | refine zq7 ?_ _)); refine blk_put (cs := #[.int .i64 ((rd_T37 l1_2 x45_2).f0), .int .i64 0]) ?_ 1 _ rfl; (with_reducible repeat (first | refine zq6 ?_ _ | refine zq8 ?_ | refine zq7 ?_ _)); refine blk_put (cs := #[.int .i64 0, .int .i64 0]) ?_ 0 _ rfl; (with_reducible repeat (first | refine zq6 ?_ _ | refine zq8 ?_ | refine zq7 ?_ _)); exact BK141.out) hb); have n2_ := Az.mk (below_step (by repeat (first | (with_reducible first | exact HB.out | apply zq2 | apply zq1 | apply zqd | refine zq3 ?_ GE135.out | refine zq3 ?_ GE141.out) | exact HB.out)) hb); clear BK135; clear BK141; clear HB; have BK135 := n0_; have BK141 := n1_; have HB := n2_; clear n0_ n1_ n2_; (try clear hb); (try clear hb2); (try clear hk); (try clear hi); have hcz44_0 : w43.cell? ⟨gb135, 0, none⟩ = some (.int .i64 a1_0) := (zq4 BK135.out 0).trans rfl; have hcz44_1 : w43.cell? ⟨gb135, 1, none⟩ = some (.int .i64 a1_1) := (zq4 BK135.out 1).trans rfl; have hcz44_2 : w43.cell? ⟨gb135, 2, none⟩ = some (.slice (some ad140) l1_2.length c1_2) := (zq4 BK135.out 2).trans rfl; have hfz44_0 := zq5 BK135.out 0; have hfz44_1 := zq5 BK135.out 1; have hfz44_2 := zq5 BK135.out 2; have q45 : (x45_2 : Int) ≤ ((l1_2.length : Int) : Int) := of_decide_eq_true (by first | (with_reducible assumption) | assumption); obtain ⟨i045, hi045, _, hsz45, _⟩ := info_parts info37; have hroom45 : l1_2.length ≤ c1_2 := HC1_2.out; have hC45 : Kd.C k37 _ (some ad140) l1_2.length l1_2 := HR1_2.out; have hcut45 := cut_to (P := Try.prog) 27 37 .i64 Try.underlying27 hi045 (some ad140) l1_2.length c1_2 x45_2 (of_decide_eq_true (by first | (with_reducible assumption) | assumption)) q45 hroom45; have hr45 := Kd.C_take (m := (x45_2 : Int).toNat) hC45 (by omega); have hy45 : y143.length = (x45_2 : Int).toNat := (by rw [Ny143.out, List.length_take]; omega); rw [← Ny143.out] at hr45; rw [← hy45] at hcut45; have HR146 := Az.mk hr45; have HC146 := Az.mk (show y143.length ≤ c1_2 from by omega); clear hr45 hC45 hroom45 hi045 hsz45; have KY45 := Az.mk hy45; clear hy45; replace q45 := eq_true q45) | (go_at_call 60; (with_reducible refine (slices_ContainsFunc_Place.calls _ _ y143 ((rd_T37 l1_2 x45_2).f0) ((rd_T37 l1_2 x45_2).f1) true _ ?side1 ?side2 A38.out gb141 (by (with_reducible repeat (first | refine zq6 ?_ _ | refine zq8 ?_ | refine zq7 ?_ _)); exact BK141.out)).mono ?_); (case side1 => repeat (first | exact (Kd.C_below HR146.out HB.out) | (with_reducible refine Kd.C_alloc ?_ _) | (with_reducible refine Kd.C_drewN ?_ _) | (with_reducible refine Kd.C_drew ?_))); (case side2 => exact HC146.out); rintro e w46 ⟨rfl, hb⟩; have n0_ := Az.mk (blk_below (g := gb135) (o := .cells #[.int .i64 a1_0, .int .i64 a1_1, .slice (some ad140) l1_2.length c1_2] 29 (0, 0)) (by (with_reducible repeat (first | refine zq6 ?_ _ | refine zq8 ?_ | refine zq7 ?_ _)); exact BK135.out) hb); have n1_ := Az.mk (blk_below (g := gb141) (o := .cells #[.int .i64 ((rd_T37 l1_2 x45_2).f0), .int .i64 ((rd_T37 l1_2 x45_2).f1)] 37 (0, 0)) (by (with_reducible repeat (first | refine zq6 ?_ _ | refine zq8 ?_ | refine zq7 ?_ _)); exact BK141.out) hb); have n2_ := Az.mk (below_step (by repeat (first | (with_reducible first | exact HB.out | apply zq2 | apply zq1 | apply zqd | refine zq3 ?_ GE135.out | refine zq3 ?_ GE141.out) | exact HB.out)) hb); clear BK135; clear BK141; clear HB; have BK135 := n0_; have BK141 := n1_; have HB := n2_; clear n0_ n1_ n2_; (try clear hb); (try clear hb2); (try clear hk); (try clear hi)))
              go_ret
              exact ⟨by first | rfl | (simp [errW_none, errW_some] <;> rfl) | (simp [*, errW_none, errW_some] <;> rfl), by repeat (first | (with_reducible first | exact HB.out | apply zq2 | apply zq1 | apply zqd | refine zq3 ?_ GE135.out | refine zq3 ?_ GE141.out) | exact HB.out)⟩
             ·replace c39 := Bool.eq_false_iff.mpr c39
              subst c39
              have H1 : (impl_PtrOk.l0 k2 a0 l1_2 (l1_2.length : Int) (wrap64 (x45_2 + 1)) a1_0 a1_1 l1_2) = some r := by rw [if_neg (show ¬ (false = true) by decide)] at H; exact H
              clear H
              have H := H1
              clear H1
              have H' := Az.mk H
              clear H
              have p140 : 0 ≤ (x45_2 : Int) := of_decide_eq_true (by first | (with_reducible assumption) | assumption)
              have q140 : x45_2 < (l1_2.length : Int) := of_decide_eq_true (by first | (with_reducible assumption) | assumption)
              obtain ⟨ad140, e140, hx140_0, hx140_1⟩ := at_T37 HR1_2.out x45_2 p140 q140
              cases e140
              replace hx140_0 := (HB.out.cell (World.block_lt_of_cell? w _ hx140_0)).trans hx140_0
              replace hx140_1 := (HB.out.cell (World.block_lt_of_cell? w _ hx140_1)).trans hx140_1
              replace p140 := eq_true p140
              replace q140 := eq_true q140
              go_wp2_with (first | ((with_reducible refine zqg (N := 6) rfl ?_); (try (refine gate_guard (by rfl) ?_; dsimp only)); refine zqb ?hg (N := 6) ?hd (cs := #[.int .i64 0, .int .i64 0]) (t := 37) ?hr ?_; (case hd => rfl); (case hg => rfl); (case hr => first | (go_simp; done) | (go_simp; rfl)); intro gb141 hg w47 hbox hb; have n0_ := Az.mk (blk_below (g := gb135) (o := .cells #[.int .i64 a1_0, .int .i64 a1_1, .slice (some ad140) l1_2.length c1_2] 29 (0, 0)) (by (with_reducible repeat (first | refine zq6 ?_ _ | refine zq8 ?_ | refine zq7 ?_ _)); exact BK135.out) hb); have n1_ := Az.mk (below_step (by repeat (first | (with_reducible first | exact HB.out | apply zq2 | apply zq1 | apply zqd | refine zq3 ?_ GE135.out) | exact HB.out)) hb); have n2_ := Az.mk (hbox); have n3_ := Az.mk ((by rw [hg]; exact (below_size (by repeat (first | (with_reducible first | exact HB.out | apply zq2 | apply zq1 | apply zqd | refine zq3 ?_ GE135.out) | exact HB.out))) : w.heap.size ≤ gb141)); have n4_ := Az.mk ((by rw [hg]; exact (below_size (by repeat (first | (with_reducible first | exact HB.out | apply zq2 | apply zq1 | apply zqd | refine zq3 ?_ GE135.out) | exact HB.out))) : w.heap.size ≤ gb141)); have n5_ := Az.mk ((by rw [hg]; exact Nat.ne_of_lt (blk_lt (g := gb135) (o := .cells #[.int .i64 a1_0, .int .i64 a1_1, .slice (some ad140) l1_2.length c1_2] 29 (0, 0)) (by (with_reducible repeat (first | refine zq6 ?_ _ | refine zq8 ?_ | refine zq7 ?_ _)); exact BK135.out)) : gb135 ≠ gb141)); have n6_ := Az.mk ((by rw [hg]; exact Nat.ne_of_gt (blk_lt (g := gb135) (o := .cells #[.int .i64 a1_0, .int .i64 a1_1, .slice (some ad140) l1_2.length c1_2] 29 (0, 0)) (by (with_reducible repeat (first | refine zq6 ?_ _ | refine zq8 ?_ | refine zq7 ?_ _)); exact BK135.out)) : gb141 ≠ gb135)); clear BK135; clear HB; have BK135 := n0_; have HB := n1_; have BK141 := n2_; have GW141 := n3_; have GE141 := n4_; have NB135_141 := n5_; have NB141_135 := n6_; clear n0_ n1_ n2_ n3_ n4_ n5_ n6_; clear hb hbox hg; have hnb48 := NB141_135.out; have hnc48 := NB135_141.out; have hcz49_0 : w47.cell? ⟨gb141, 0, none⟩ = some (.int .i64 0) := (zq4 BK141.out 0).trans rfl; have hcz49_1 : w47.cell? ⟨gb141, 1, none⟩ = some (.int .i64 0) := (zq4 BK141.out 1).trans rfl; have hfz49_0 := zq5 BK141.out 0; have hfz49_1 := zq5 BK141.out 1) | ((with_reducible refine gate_callee (f := 59) rfl ?_); refine zq9 (some 52) rfl rfl Try.func59 (by kernel_rfl) rfl #[.agg #[.int .i64 ((rd_T37 l1_2 x45_2).f0), .int .i64 ((rd_T37 l1_2 x45_2).f1)], .int .i64 a0] rfl (by (try simp only [List.map_toArray, List.map_cons, List.map_nil]); first | done | rfl | (simp only [List.length_drop, List.length_take]; rfl)) ?_; (with_reducible refine (impl_Place_ok.calls ((rd_T37 l1_2 x45_2).f0) ((rd_T37 l1_2 x45_2).f1) a0 true _ A34.out).mono ?_); rintro e w50 ⟨rfl, hb⟩; refine ⟨_, rfl, ?_⟩; have n0_ := Az.mk (blk_below (g := gb135) (o := .cells #[.int .i64 a1_0, .int .i64 a1_1, .slice (some ad140) l1_2.length c1_2] 29 (0, 0)) (by (with_reducible repeat (first | refine zq6 ?_ _ | refine zq8 ?_ | refine zq7 ?_ _)); refine blk_far ?_ NB135_141.out _; (with_reducible repeat (first | refine zq6 ?_ _ | refine zq8 ?_ | refine zq7 ?_ _)); refine blk_far ?_ NB135_141.out _; (with_reducible repeat (first | refine zq6 ?_ _ | refine zq8 ?_ | refine zq7 ?_ _)); exact BK135.out) hb); have n1_ := Az.mk (blk_below (g := gb141) (o := .cells #[.int .i64 ((rd_T37 l1_2 x45_2).f0), .int .i64 ((rd_T37 l1_2 x45_2).f1)] 37 (0, 0)) (by (with_reducible repeat (first | refine zq6 ?_ _ | refine zq8 ?_ | refine zq7 ?_ _)); refine blk_put (cs := #[.int .i64 ((rd_T37 l1_2 x45_2).f0), .int .i64 0]) ?_ 1 _ rfl; (with_reducible repeat (first | refine zq6 ?_ _ | refine zq8 ?_ | refine zq7 ?_ _)); refine blk_put (cs := #[.int .i64 0, .int .i64 0]) ?_ 0 _ rfl; (with_reducible repeat (first | refine zq6 ?_ _ | refine zq8 ?_ | refine zq7 ?_ _)); exact BK141.out) hb); have n2_ := Az.mk (below_step (by repeat (first | (with_reducible first | exact HB.out | apply zq2 | apply zq1 | apply zqd | refine zq3 ?_ GE135.out | refine zq3 ?_ GE141.out) | exact HB.out)) hb); clear BK135; clear BK141; clear HB; have BK135 := n0_; have BK141 := n1_; have HB := n2_; clear n0_ n1_ n2_; (try clear hb); (try clear hb2); (try clear hk); (try clear hi); have hcz51_0 : w50.cell? ⟨gb135, 0, none⟩ = some (.int .i64 a1_0) := (zq4 BK135.out 0).trans rfl; have hcz51_1 : w50.cell? ⟨gb135, 1, none⟩ = some (.int .i64 a1_1) := (zq4 BK135.out 1).trans rfl; have hcz51_2 : w50.cell? ⟨gb135, 2, none⟩ = some (.slice (some ad140) l1_2.length c1_2) := (zq4 BK135.out 2).trans rfl; have hfz51_0 := zq5 BK135.out 0; have hfz51_1 := zq5 BK135.out 1; have hfz51_2 := zq5 BK135.out 2; have q52 : (x45_2 : Int) ≤ ((l1_2.length : Int) : Int) := of_decide_eq_true (by first | (with_reducible assumption) | assumption); obtain ⟨i052, hi052, _, hsz52, _⟩ := info_parts info37; have hroom52 : l1_2.length ≤ c1_2 := HC1_2.out; have hC52 : Kd.C k37 _ (some ad140) l1_2.length l1_2 := HR1_2.out; have hcut52 := cut_to (P := Try.prog) 27 37 .i64 Try.underlying27 hi052 (some ad140) l1_2.length c1_2 x45_2 (of_decide_eq_true (by first | (with_reducible assumption) | assumption)) q52 hroom52; have hr52 := Kd.C_take (m := (x45_2 : Int).toNat) hC52 (by omega); have hy52 : y143.length = (x45_2 : Int).toNat := (by rw [Ny143.out, List.length_take]; omega); rw [← Ny143.out] at hr52; rw [← hy52] at hcut52; have HR146 := Az.mk hr52; have HC146 := Az.mk (show y143.length ≤ c1_2 from by omega); clear hr52 hC52 hroom52 hi052 hsz52; have KY52 := Az.mk hy52; clear hy52; replace q52 := eq_true q52) | (go_at_call 60; (with_reducible refine (slices_ContainsFunc_Place.calls _ _ y143 ((rd_T37 l1_2 x45_2).f0) ((rd_T37 l1_2 x45_2).f1) false _ ?side1 ?side2 A38.out gb141 (by (with_reducible repeat (first | refine zq6 ?_ _ | refine zq8 ?_ | refine zq7 ?_ _)); exact BK141.out)).mono ?_); (case side1 => repeat (first | exact (Kd.C_below HR146.out HB.out) | (with_reducible refine Kd.C_alloc ?_ _) | (with_reducible refine Kd.C_drewN ?_ _) | (with_reducible refine Kd.C_drew ?_))); (case side2 => exact HC146.out); rintro e w53 ⟨rfl, hb⟩; have n0_ := Az.mk (blk_below (g := gb135) (o := .cells #[.int .i64 a1_0, .int .i64 a1_1, .slice (some ad140) l1_2.length c1_2] 29 (0, 0)) (by (with_reducible repeat (first | refine zq6 ?_ _ | refine zq8 ?_ | refine zq7 ?_ _)); exact BK135.out) hb); have n1_ := Az.mk (blk_below (g := gb141) (o := .cells #[.int .i64 ((rd_T37 l1_2 x45_2).f0), .int .i64 ((rd_T37 l1_2 x45_2).f1)] 37 (0, 0)) (by (with_reducible repeat (first | refine zq6 ?_ _ | refine zq8 ?_ | refine zq7 ?_ _)); exact BK141.out) hb); have n2_ := Az.mk (below_step (by repeat (first | (with_reducible first | exact HB.out | apply zq2 | apply zq1 | apply zqd | refine zq3 ?_ GE135.out | refine zq3 ?_ GE141.out) | exact HB.out)) hb); clear BK135; clear BK141; clear HB; have BK135 := n0_; have BK141 := n1_; have HB := n2_; clear n0_ n1_ n2_; (try clear hb); (try clear hb2); (try clear hk); (try clear hi)))
              go_roundg k2
              case measure => have := HJ9.out; have := HK2.out; omega
              case rel => exact ⟨(wrap64 (x45_2 + 1)), (by first | rfl | (simp; done) | (simp [*]; done)), H', ⟨by have := HJ9.out; have := HK2.out; omega⟩, ⟨by (with_reducible repeat (first | refine zq6 ?_ _ | refine zq8 ?_ | refine zq7 ?_ _)); exact BK135.out⟩, ⟨by repeat (first | (with_reducible first | exact HB.out | apply zq2 | apply zq1 | apply zqd | refine zq3 ?_ GE135.out | refine zq3 ?_ GE141.out) | exact HB.out)⟩⟩
            ·rw [if_neg c37] at H
             exact absurd H (by simp)
           ·replace c35 := Bool.eq_false_iff.mpr c35
            subst c35
            have H1 : (some false) = some r := by rw [if_neg (show ¬ (false = true) by decide)] at H; exact H
            clear H
            have H := H1
            clear H1
            obtain rfl := Option.some.inj H
            have p140 : 0 ≤ (x45_2 : Int) := of_decide_eq_true (by first | (with_reducible assumption) | assumption)
            have q140 : x45_2 < (l1_2.length : Int) := of_decide_eq_true (by first | (with_reducible assumption) | assumption)
            obtain ⟨ad140, e140, hx140_0, hx140_1⟩ := at_T37 HR1_2.out x45_2 p140 q140
            cases e140
            replace hx140_0 := (HB.out.cell (World.block_lt_of_cell? w _ hx140_0)).trans hx140_0
            replace hx140_1 := (HB.out.cell (World.block_lt_of_cell? w _ hx140_1)).trans hx140_1
            replace p140 := eq_true p140
            replace q140 := eq_true q140
            go_wp2_with (first | ((with_reducible refine zqg (N := 6) rfl ?_); (try (refine gate_guard (by rfl) ?_; dsimp only)); refine zqb ?hg (N := 6) ?hd (cs := #[.int .i64 0, .int .i64 0]) (t := 37) ?hr ?_; (case hd => rfl); (case hg => rfl); (case hr => first | (go_simp; done) | (go_simp; rfl)); intro gb141 hg w54 hbox hb; have n0_ := Az.mk (blk_below (g := gb135) (o := .cells #[.int .i64 a1_0, .int .i64 a1_1, .slice (some ad140) l1_2.length c1_2] 29 (0, 0)) (by (with_reducible repeat (first | refine zq6 ?_ _ | refine zq8 ?_ | refine zq7 ?_ _)); exact BK135.out) hb); have n1_ := Az.mk (below_step (by repeat (first | (with_reducible first | exact HB.out | apply zq2 | apply zq1 | apply zqd | refine zq3 ?_ GE135.out) | exact HB.out)) hb); have n2_ := Az.mk (hbox); have n3_ := Az.mk ((by rw [hg]; exact (below_size (by repeat (first | (with_reducible first | exact HB.out | apply zq2 | apply zq1 | apply zqd | refine zq3 ?_ GE135.out) | exact HB.out))) : w.heap.size ≤ gb141)); have n4_ := Az.mk ((by rw [hg]; exact (below_size (by repeat (first | (with_reducible first | exact HB.out | apply zq2 | apply zq1 | apply zqd | refine zq3 ?_ GE135.out) | exact HB.out))) : w.heap.size ≤ gb141)); have n5_ := Az.mk ((by rw [hg]; exact Nat.ne_of_lt (blk_lt (g := gb135) (o := .cells #[.int .i64 a1_0, .int .i64 a1_1, .slice (some ad140) l1_2.length c1_2] 29 (0, 0)) (by (with_reducible repeat (first | refine zq6 ?_ _ | refine zq8 ?_ | refine zq7 ?_ _)); exact BK135.out)) : gb135 ≠ gb141)); have n6_ := Az.mk ((by rw [hg]; exact Nat.ne_of_gt (blk_lt (g := gb135) (o := .cells #[.int .i64 a1_0, .int .i64 a1_1, .slice (some ad140) l1_2.length c1_2] 29 (0, 0)) (by (with_reducible repeat (first | refine zq6 ?_ _ | refine zq8 ?_ | refine zq7 ?_ _)); exact BK135.out)) : gb141 ≠ gb135)); clear BK135; clear HB; have BK135 := n0_; have HB := n1_; have BK141 := n2_; have GW141 := n3_; have GE141 := n4_; have NB135_141 := n5_; have NB141_135 := n6_; clear n0_ n1_ n2_ n3_ n4_ n5_ n6_; clear hb hbox hg; have hnb55 := NB141_135.out; have hnc55 := NB135_141.out; have hcz56_0 : w54.cell? ⟨gb141, 0, none⟩ = some (.int .i64 0) := (zq4 BK141.out 0).trans rfl; have hcz56_1 : w54.cell? ⟨gb141, 1, none⟩ = some (.int .i64 0) := (zq4 BK141.out 1).trans rfl; have hfz56_0 := zq5 BK141.out 0; have hfz56_1 := zq5 BK141.out 1) | ((with_reducible refine gate_callee (f := 59) rfl ?_); refine zq9 (some 52) rfl rfl Try.func59 (by kernel_rfl) rfl #[.agg #[.int .i64 ((rd_T37 l1_2 x45_2).f0), .int .i64 ((rd_T37 l1_2 x45_2).f1)], .int .i64 a0] rfl (by (try simp only [List.map_toArray, List.map_cons, List.map_nil]); first | done | rfl | (simp only [List.length_drop, List.length_take]; rfl)) ?_; (with_reducible refine (impl_Place_ok.calls ((rd_T37 l1_2 x45_2).f0) ((rd_T37 l1_2 x45_2).f1) a0 false _ A34.out).mono ?_); rintro e w57 ⟨rfl, hb⟩; refine ⟨_, rfl, ?_⟩; have n0_ := Az.mk (blk_below (g := gb135) (o := .cells #[.int .i64 a1_0, .int .i64 a1_1, .slice (some ad140) l1_2.length c1_2] 29 (0, 0)) (by (with_reducible repeat (first | refine zq6 ?_ _ | refine zq8 ?_ | refine zq7 ?_ _)); refine blk_far ?_ NB135_141.out _; (with_reducible repeat (first | refine zq6 ?_ _ | refine zq8 ?_ | refine zq7 ?_ _)); refine blk_far ?_ NB135_141.out _; (with_reducible repeat (first | refine zq6 ?_ _ | refine zq8 ?_ | refine zq7 ?_ _)); exact BK135.out) hb); have n1_ := Az.mk (blk_below (g := gb141) (o := .cells #[.int .i64 ((rd_T37 l1_2 x45_2).f0), .int .i64 ((rd_T37 l1_2 x45_2).f1)] 37 (0, 0)) (by (with_reducible repeat (first | refine zq6 ?_ _ | refine zq8 ?_ | refine zq7 ?_ _)); refine blk_put (cs := #[.int .i64 ((rd_T37 l1_2 x45_2).f0), .int .i64 0]) ?_ 1 _ rfl; (with_reducible repeat (first | refine zq6 ?_ _ | refine zq8 ?_ | refine zq7 ?_ _)); refine blk_put (cs := #[.int .i64 0, .int .i64 0]) ?_ 0 _ rfl; (with_reducible repeat (first | refine zq6 ?_ _ | refine zq8 ?_ | refine zq7 ?_ _)); exact BK141.out) hb); have n2_ := Az.mk (below_step (by repeat (first | (with_reducible first | exact HB.out | apply zq2 | apply zq1 | apply zqd | refine zq3 ?_ GE135.out | refine zq3 ?_ GE141.out) | exact HB.out)) hb); clear BK135; clear BK141; clear HB; have BK135 := n0_; have BK141 := n1_; have HB := n2_; clear n0_ n1_ n2_; (try clear hb); (try clear hb2); (try clear hk); (try clear hi)))
            go_ret
            exact ⟨by first | rfl | (simp [errW_none, errW_some] <;> rfl) | (simp [*, errW_none, errW_some] <;> rfl), by repeat (first | (with_reducible first | exact HB.out | apply zq2 | apply zq1 | apply zqd | refine zq3 ?_ GE135.out | refine zq3 ?_ GE141.out) | exact HB.out)⟩
          ·rw [if_neg c33] at H
           exact absurd H (by simp)
         ·rw [if_neg c32] at H
          exact absurd H (by simp)
        ·rw [if_neg c31] at H
         have c31b0 : decide (x45_2 < (l1_2.length : Int)) = false := decide_eq_false c31
         clear c31
         obtain rfl := Option.some.inj H
         go_wp2
         go_ret
         exact ⟨by first | rfl | (simp [errW_none, errW_some] <;> rfl) | (simp [*, errW_none, errW_some] <;> rfl), by repeat (first | (with_reducible first | exact HB.out | apply zq2 | apply zq1 | apply zqd | refine zq3 ?_ GE135.out) | exact HB.out)⟩
 ·replace c4 := Bool.eq_false_iff.mpr c4
  subst c4
  have H1 : (some false) = some r := by rw [if_neg (show ¬ (false = true) by decide)] at H; exact H
  clear H
  have H := H1
  clear H1
  obtain rfl := Option.some.inj H
  go_enter Try.func20, Try.ntmps20
  go_wp2_with (first | ((with_reducible refine zqg (N := 3) rfl ?_); (try (refine gate_guard (by rfl) ?_; dsimp only)); refine zqb ?hg (N := 3) ?hd (cs := #[.int .i64 a1_0, .int .i64 a1_1, .slice A1_2 l1_2.length c1_2]) (t := 29) ?hr ?_; (case hd => rfl); (case hg => rfl); (case hr => first | (go_simp; done) | (go_simp; rfl)); intro gb135 hg w58 hbox hb; have n0_ := Az.mk (below_step zB hb); have n1_ := Az.mk (hbox); have n2_ := Az.mk ((by rw [hg]; exact (below_size zB) : w.heap.size ≤ gb135)); have n3_ := Az.mk ((by rw [hg]; exact (below_size zB) : w.heap.size ≤ gb135)); clear HB; have HB := n0_; have BK135 := n1_; have GW135 := n2_; have GE135 := n3_; clear n0_ n1_ n2_ n3_; clear hb hbox hg) | ((with_reducible refine gate_callee (f := 55) rfl ?_); refine zq9 (some 8) rfl rfl Try.func55 (by kernel_rfl) rfl #[.int .i64 a0] rfl (by (try simp only [List.map_toArray, List.map_cons, List.map_nil]); first | done | rfl | (simp only [List.length_drop, List.length_take]; rfl)) ?_; (with_reducible refine (impl_isPool.calls a0 false _ A3.out).mono ?_); rintro e w' ⟨rfl, ⟨nd, rfl⟩⟩; refine ⟨_, rfl, ?_⟩))
  go_ret
  exact ⟨by first | rfl | (simp [errW_none, errW_some] <;> rfl) | (simp [*, errW_none, errW_some] <;> rfl), by repeat (first | (with_reducible first | exact HB.out | apply zq2 | apply zq1 | apply zqd | refine zq3 ?_ GE135.out) | exact HB.out)⟩
end Go.Proofs.Ytkoimmeghdbodaa.Print
namespace Go.Proofs.Ytkoimmeghdbodaa.Pure
open Go.RowKit Go.Proofs.Ytkoimmeghdbodaa.Print Go.Proofs.YtkoimmeghdbodaaW.PrintWords
theorem l6In_eq (n lo hi : Int) : spec_l6In.f n lo hi = some (decide (lo ≤ n ∧ n ≤ hi)) := by
  unfold spec_l6In.f
  by_cases h : n ≥ lo
  · rw [if_pos h]
    congr 1
    by_cases h2 : n ≤ hi
    · rw [decide_eq_true h2, decide_eq_true ⟨h, h2⟩]
    · rw [decide_eq_false h2, decide_eq_false (fun h3 => h2 h3.2)]
  · rw [if_neg h, decide_eq_false (fun h3 => h h3.1)]
def plAt (l : List S37) (i : Nat) : S37 := l.getD i z37
theorem rd37_nat (l : List S37) (i : Nat) : rd_T37 l (i : Int) = plAt l i := by simp [rd_T37, plAt]
def PlaceIn (n : Int) (p : S37) : Prop := (0 ≤ p.f0 ∧ p.f0 < n) ∧ 0 ≤ p.f1 ∧ p.f1 < 12
def GoodAt (n : Int) (l : List S37) (i : Nat) : Prop := PlaceIn n (plAt l i) ∧ ∀ k, k < i → (plAt l k).f0 ≠ (plAt l i).f0
def AllGood (n : Int) (l : List S37) : Prop := ∀ i, i < l.length → GoodAt n l i
theorem spec_l1_good {n s m : Int} {l : List S37} (hl : l.length ≤ 1099511627776) {i : Nat} (hi : i < l.length) {r : Bool} (k : Ev (fun k => spec_l2Ptr.l0 k n ((i + 1 : Nat) : Int) s m l) r) (d : Nat) :
    ∀ q : Nat, q + d = i → (∀ j, q ≤ j → j < i → (plAt l j).f0 ≠ (plAt l i).f0) → Ev (fun k => spec_l2Ptr.l1 k n (i : Int) (q : Int) s m l) r := by
  have e : wrap64 ((i : Int) + 1) = ((i + 1 : Nat) : Int) := by rw [wrap_ok (by omega)]; omega
  induction d with
  | zero =>
    intro q hq _
    refine Ev.next ?_
    simp only [spec_l2Ptr.l1, e]
    clear e
    exact Ev.neg (by omega) k
  | succ d ih =>
    intro q hq h
    have e2 : wrap64 ((q : Int) + 1) = ((q + 1 : Nat) : Int) := by rw [wrap_ok (by omega)]; omega
    have hih := ih (q + 1) (by omega) (fun j h1 h2 => h j (by omega) h2)
    refine Ev.next ?_
    simp only [spec_l2Ptr.l1, e2, rd37_nat]
    clear e e2
    exact Ev.pos (by omega) (Ev.pos (by omega) (Ev.pos (by omega) (Ev.pos (by omega) (Ev.pos (by omega) (Ev.neg (h q (by omega) (by omega)) hih)))))
theorem spec_l1_bad {n s m : Int} {l : List S37} (hl : l.length ≤ 1099511627776) {i : Nat} (hi : i < l.length) (d : Nat) :
    ∀ q : Nat, q + d = i → (∃ j, q ≤ j ∧ j < i ∧ (plAt l j).f0 = (plAt l i).f0) → Ev (fun k => spec_l2Ptr.l1 k n (i : Int) (q : Int) s m l) false := by
  induction d with
  | zero =>
    rintro q hq ⟨j, h1, h2, _⟩
    omega
  | succ d ih =>
    rintro q hq ⟨j, h1, h2, h3⟩
    have e2 : wrap64 ((q : Int) + 1) = ((q + 1 : Nat) : Int) := by rw [wrap_ok (by omega)]; omega
    refine Ev.next ?_
    simp only [spec_l2Ptr.l1, e2, rd37_nat]
    clear e2
    refine Ev.pos (by omega) (Ev.pos (by omega) (Ev.pos (by omega) (Ev.pos (by omega) (Ev.pos (by omega) (Ev.ite (fun _ => Ev.ret rfl) (fun hne => ih (q + 1) (by omega) ⟨j, ?_, h2, h3⟩))))))
    by_cases e : j = q
    · subst e
      exact absurd h3 hne
    · omega
open Classical in
theorem spec_l0_ev {n s m : Int} (hn : 3 ≤ n ∧ n ≤ 4) {l : List S37} (hl : l.length ≤ 1099511627776) (d : Nat) : ∀ i : Nat, i + d = l.length →
    Ev (fun k => spec_l2Ptr.l0 k n (i : Int) s m l) (decide (∀ j, i ≤ j → j < l.length → GoodAt n l j)) := by
  induction d with
  | zero =>
    intro i hi
    refine Ev.next ?_
    simp only [spec_l2Ptr.l0]
    refine Ev.neg (by omega) (Ev.ret ?_)
    rw [decide_eq_true]
    intro j h1 h2
    omega
  | succ d ih =>
    intro i hi
    have hih := ih (i + 1) (by omega)
    have e : wrap64 (n - 1) = n - 1 := wrap_ok (by omega)
    refine Ev.next ?_
    simp only [spec_l2Ptr.l0, e, rd37_nat]
    clear e
    refine Ev.pos (by omega) (Ev.pos (by omega) (Ev.take (l6In_eq _ _ _) ?_))
    by_cases h1 : 0 ≤ (plAt l i).f0 ∧ (plAt l i).f0 ≤ n - 1
    · refine Ev.pos (by simpa using h1) (Ev.take (l6In_eq _ _ _) (Ev.next ?_))
      simp only [spec_l2Ptr.j2]
      by_cases h2 : 0 ≤ (plAt l i).f1 ∧ (plAt l i).f1 ≤ 11
      · refine Ev.neg (by simpa using h2) ?_
        by_cases h3 : ∀ j, j < i → (plAt l j).f0 ≠ (plAt l i).f0
        · have hg : GoodAt n l i := ⟨⟨⟨h1.1, by omega⟩, h2.1, by omega⟩, h3⟩
          have : (∀ j, i ≤ j → j < l.length → GoodAt n l j) ↔ (∀ j, i + 1 ≤ j → j < l.length → GoodAt n l j) :=
            ⟨fun h j h1 h2 => h j (by omega) h2, fun h j h1 h2 => by
              by_cases e : j = i
              · rw [e]; exact hg
              · exact h j (by omega) h2⟩
          simp only [this]
          exact spec_l1_good hl (by omega) hih i 0 (Nat.zero_add _) (fun j _ h => h3 j h)
        · have hx : ∃ j, 0 ≤ j ∧ j < i ∧ (plAt l j).f0 = (plAt l i).f0 := by
            apply Classical.byContradiction
            intro hc
            exact h3 fun j hj he => hc ⟨j, Nat.zero_le _, hj, he⟩
          rw [decide_eq_false (fun h => h3 (h i (Nat.le_refl _) (by omega)).2)]
          exact spec_l1_bad hl (by omega) i 0 (Nat.zero_add _) hx
      · refine Ev.pos (by rw [decide_eq_false h2]; rfl) (Ev.ret ?_)
        rw [decide_eq_false]
        intro h
        have := (h i (Nat.le_refl _) (by omega)).1.2
        exact h2 ⟨this.1, by omega⟩
    · refine Ev.neg (by simpa using h1) (Ev.next ?_)
      simp only [spec_l2Ptr.j2]
      refine Ev.pos trivial (Ev.ret ?_)
      rw [decide_eq_false]
      intro h
      have := (h i (Nat.le_refl _) (by omega)).1.1
      exact h1 ⟨this.1, by omega⟩
theorem placeOk_eq (p : S37) (n : Int) [Decidable (PlaceIn n p)] : impl_Place_ok.f p.f0 p.f1 n = some (decide (PlaceIn n p)) := by
  unfold impl_Place_ok.f
  by_cases h1 : p.f0 ≥ 0
  · by_cases h2 : p.f0 < n
    · by_cases h3 : p.f1 ≥ 0
      · rw [if_pos h1, if_pos h2, if_pos h3]
        congr 1
        by_cases h4 : p.f1 < 12
        · rw [decide_eq_true h4, decide_eq_true (show PlaceIn n p from ⟨⟨h1, h2⟩, h3, h4⟩)]
        · rw [decide_eq_false h4, decide_eq_false (fun h : PlaceIn n p => h4 h.2.2)]
      · rw [if_pos h1, if_pos h2, if_neg h3, decide_eq_false (fun h : PlaceIn n p => h3 h.2.1)]
    · rw [if_pos h1, if_neg h2, decide_eq_false (fun h : PlaceIn n p => h2 h.1.2)]
  · rw [if_neg h1, decide_eq_false (fun h : PlaceIn n p => h1 h.1.1)]
theorem any_take (l : List S37) (i : Nat) (hi : i ≤ l.length) (x : Int) : ((l.take i).any fun y => y.f0 == x) = true ↔ ∃ j, j < i ∧ (plAt l j).f0 = x := by
  rw [List.any_eq_true]
  constructor
  · rintro ⟨y, hy, he⟩
    obtain ⟨j, hj, rfl⟩ := List.getElem_of_mem hy
    simp only [List.length_take] at hj
    refine ⟨j, by omega, ?_⟩
    have hjl : j < l.length := by omega
    simpa [plAt, List.getD, hjl] using he
  · rintro ⟨j, hj, he⟩
    have hjl : j < l.length := by omega
    refine ⟨l[j], ?_, by simpa [plAt, List.getD, hjl] using he⟩
    rw [List.mem_take_iff_getElem]
    exact ⟨j, by omega, rfl⟩
open Classical in
theorem impl_l0_ev {n s m : Int} {l : List S37} (hl : l.length ≤ 1099511627776) (d : Nat) : ∀ i : Nat, i + d = l.length →
    Ev (fun k => impl_PtrOk.l0 k n l (l.length : Int) (i : Int) s m l) (decide (∀ j, i ≤ j → j < l.length → GoodAt n l j)) := by
  induction d with
  | zero =>
    intro i hi
    refine Ev.next ?_
    simp only [impl_PtrOk.l0]
    refine Ev.neg (by omega) (Ev.ret ?_)
    rw [decide_eq_true]
    intro j h1 h2
    omega
  | succ d ih =>
    intro i hi
    have hih := ih (i + 1) (by omega)
    have e : wrap64 ((i : Int) + 1) = ((i + 1 : Nat) : Int) := by rw [wrap_ok (by omega)]; omega
    refine Ev.next ?_
    simp only [impl_PtrOk.l0, e, rd37_nat, Int.toNat_natCast]
    clear e
    refine Ev.pos (by omega) (Ev.pos (by omega) (Ev.pos (by omega) (Ev.take (placeOk_eq _ _) ?_)))
    by_cases h1 : PlaceIn n (plAt l i)
    · refine Ev.pos (by simpa using h1) (Ev.pos (by omega) (Ev.take rfl ?_))
      by_cases h2 : ∃ j, j < i ∧ (plAt l j).f0 = (plAt l i).f0
      · refine Ev.pos ((any_take l i (by omega) _).2 h2) (Ev.ret ?_)
        rw [decide_eq_false]
        intro h
        obtain ⟨j, hj, he⟩ := h2
        exact (h i (Nat.le_refl _) (by omega)).2 j hj he
      · refine Ev.neg (fun h => h2 ((any_take l i (by omega) _).1 h)) ?_
        have hg : GoodAt n l i := ⟨h1, fun j hj he => h2 ⟨j, hj, he⟩⟩
        have : (∀ j, i ≤ j → j < l.length → GoodAt n l j) ↔ (∀ j, i + 1 ≤ j → j < l.length → GoodAt n l j) :=
          ⟨fun h j h1 h2 => h j (by omega) h2, fun h j h1 h2 => by
            by_cases e : j = i
            · rw [e]; exact hg
            · exact h j (by omega) h2⟩
        simp only [this]
        exact hih
    · refine Ev.neg (by simpa using h1) (Ev.ret ?_)
      rw [decide_eq_false]
      intro h
      exact h1 (h i (Nat.le_refl _) (by omega)).1
def PtrGood (n s m : Int) (l : List S37) : Prop := (s = 0 ∧ m = 0 ∧ l.length = 0) ∨ ((1 ≤ s ∧ s ≤ 3 * (n - 1)) ∧ (0 ≤ m ∧ m ≤ 1000000000) ∧ (l.length : Int) = (s + 2) / 3 + 1 ∧ AllGood n l)
theorem cols_eq {s : Int} (h : 0 ≤ s ∧ s ≤ 1099511627776) : wrap64 (Int.tdiv (wrap64 ((wrap64 (s + 3)) - 1)) 3) = (s + 2) / 3 := by
  rw [wrap_ok (x := s + 3) (by omega), wrap_ok (x := s + 3 - 1) (by omega), Int.tdiv_eq_ediv_of_nonneg (by omega), wrap_ok (by omega)]
  omega
theorem most_eq {n : Int} (hn : 3 ≤ n ∧ n ≤ 4) : wrap64 (3 * (mn 3 (wrap64 (n - 1)))) = 3 * (n - 1) := by
  rw [wrap_ok (x := n - 1) (by omega)]
  have : mn 3 (n - 1) = n - 1 := by unfold mn; split <;> omega
  rw [this, wrap_ok (by omega)]
open Classical in
noncomputable def ptrB (n s m : Int) (l : List S37) : Bool := decide ((3 ≤ n ∧ n ≤ 4) ∧ PtrGood n s m l)
open Classical in
theorem spec_l2Ptr_ev {n : Int} (hn : 3 ≤ n ∧ n ≤ 4) (s m : Int) (l : List S37) (hl : l.length ≤ 1099511627776) : Ev (fun k => spec_l2Ptr.f k n s m l) (decide (PtrGood n s m l)) := by
  unfold spec_l2Ptr.f
  have bad : ∀ h : ¬ PtrGood n s m l, Ev (fun k => spec_l2Ptr.j0 k n true s m l) (decide (PtrGood n s m l)) := by
    intro h
    refine Ev.next ?_
    simp only [spec_l2Ptr.j0]
    exact Ev.pos trivial (Ev.ret (decide_eq_false h).symm)
  by_cases h0 : s = 0
  · refine Ev.pos h0 ?_
    by_cases hm : m = 0
    · refine Ev.pos hm (Ev.ret ?_)
      by_cases hz : l.length = 0
      · rw [decide_eq_true (show PtrGood n s m l from Or.inl ⟨h0, hm, hz⟩)]
        simp [hz]
      · rw [decide_eq_false]
        · simp only [beq_eq_false_iff_ne]
          omega
        · rintro (h | h)
          · exact hz h.2.2
          · omega
    · refine Ev.neg hm (Ev.ret ?_)
      rw [decide_eq_false]
      rintro (h | h)
      · exact hm h.2.1
      · omega
  · refine Ev.neg h0 ?_
    rw [most_eq hn]
    refine Ev.take (l6In_eq _ _ _) ?_
    by_cases h1 : 1 ≤ s ∧ s ≤ 3 * (n - 1)
    · refine Ev.pos (by simpa using h1) (Ev.take (l6In_eq _ _ _) ?_)
      by_cases h2 : 0 ≤ m ∧ m ≤ 1000000000
      · refine Ev.pos (by simpa using h2) (Ev.take rfl ?_)
        rw [cols_eq (by omega), wrap_ok (x := (s + 2) / 3 + 1) (by omega)]
        by_cases h3 : (l.length : Int) = (s + 2) / 3 + 1
        · refine Ev.next ?_
          simp only [spec_l2Ptr.j0]
          refine Ev.neg (by simp [h3]) ?_
          have := spec_l0_ev (s := s) (m := m) hn hl l.length 0 (Nat.zero_add _)
          have e : (∀ j, 0 ≤ j → j < l.length → GoodAt n l j) ↔ PtrGood n s m l :=
            ⟨fun h => Or.inr ⟨h1, h2, h3, fun i hi => h i (Nat.zero_le _) hi⟩, fun h j _ hj => by
              rcases h with h | h
              · omega
              · exact h.2.2.2 j hj⟩
          simp only [e] at this
          exact this
        · have : ((l.length : Int) != (s + 2) / 3 + 1) = true := by simpa using h3
          rw [this]
          exact bad (by
            rintro (h | h)
            · exact h0 h.1
            · exact h3 h.2.2.1)
      · exact Ev.neg (by simpa using h2) (bad (by
          rintro (h | h)
          · exact h0 h.1
          · exact h2 h.2.1))
    · exact Ev.neg (by simpa using h1) (bad (by
        rintro (h | h)
        · exact h0 h.1
        · exact h1 h.1))
open Classical in
theorem implPtr_ev (n s m : Int) (l : List S37) (hl : l.length ≤ 1099511627776) : Ev (fun k => impl_PtrOk.f k n s m l) (ptrB n s m l) := by
  unfold impl_PtrOk.f ptrB
  refine Ev.take (a := decide (3 ≤ n ∧ n ≤ 4)) (by
    unfold impl_isPool.f
    by_cases h : n ≥ 3
    · rw [if_pos h]
      congr 1
      by_cases h2 : n ≤ 4
      · rw [decide_eq_true h2, decide_eq_true ⟨h, h2⟩]
      · rw [decide_eq_false h2, decide_eq_false (fun h3 => h2 h3.2)]
    · rw [if_neg h, decide_eq_false (fun h3 => h h3.1)]) ?_
  by_cases hn : 3 ≤ n ∧ n ≤ 4
  · refine Ev.pos (by simpa using hn) ?_
    have bad : ∀ h : ¬ PtrGood n s m l, Ev (fun k => impl_PtrOk.j0 k n true s m l) (decide ((3 ≤ n ∧ n ≤ 4) ∧ PtrGood n s m l)) := by
      intro h
      refine Ev.next ?_
      simp only [impl_PtrOk.j0]
      exact Ev.pos trivial (Ev.ret (decide_eq_false (fun hh => h hh.2)).symm)
    have hz : impl_Ptr_none.f s m l = some (decide (s = 0 ∧ m = 0 ∧ l.length = 0)) := by
      unfold impl_Ptr_none.f
      by_cases h1 : s = 0
      · by_cases h2 : m = 0
        · rw [if_pos h1, if_pos h2]
          congr 1
          by_cases h3 : l.length = 0
          · rw [decide_eq_true ⟨h1, h2, h3⟩]
            simp [h3]
          · rw [decide_eq_false (fun h => h3 h.2.2)]
            simp only [beq_eq_false_iff_ne]
            omega
        · rw [if_pos h1, if_neg h2, decide_eq_false (fun h => h2 h.2.1)]
      · rw [if_neg h1, decide_eq_false (fun h => h1 h.1)]
    refine Ev.take hz ?_
    by_cases h0 : s = 0 ∧ m = 0 ∧ l.length = 0
    · exact Ev.pos (by simpa using h0) (Ev.ret (decide_eq_true ⟨hn, Or.inl h0⟩).symm)
    · refine Ev.neg (by simpa using h0) ?_
      refine Ev.ite (fun h1 => bad (by
        rintro (h | h)
        · exact h0 h
        · omega)) (fun h1 => ?_)
      refine Ev.take (a := 3 * (n - 1)) (by unfold impl_textMost.f; rw [most_eq hn]) ?_
      refine Ev.ite (fun h2 => bad (by
        rintro (h | h)
        · exact h0 h
        · omega)) (fun h2 => ?_)
      refine Ev.ite (fun h3 => bad (by
        rintro (h | h)
        · exact h0 h
        · omega)) (fun h3 => ?_)
      refine Ev.ite (fun h4 => bad (by
        rintro (h | h)
        · exact h0 h
        · omega)) (fun h4 => ?_)
      refine Ev.take (a := (s + 2) / 3) (by unfold impl_columns.f; rw [cols_eq (by omega)]) ?_
      rw [wrap_ok (x := (s + 2) / 3 + 1) (by omega)]
      by_cases h5 : (l.length : Int) = (s + 2) / 3 + 1
      · refine Ev.next ?_
        simp only [impl_PtrOk.j0]
        refine Ev.neg (by simp [h5]) ?_
        have := impl_l0_ev (n := n) (s := s) (m := m) hl l.length 0 (Nat.zero_add _)
        have e : (∀ j, 0 ≤ j → j < l.length → GoodAt n l j) ↔ ((3 ≤ n ∧ n ≤ 4) ∧ PtrGood n s m l) :=
          ⟨fun h => ⟨hn, Or.inr ⟨by omega, by omega, h5, fun i hi => h i (Nat.zero_le _) hi⟩⟩, fun h j _ hj => by
            rcases h.2 with h | h
            · omega
            · exact h.2.2.2 j hj⟩
        simp only [e] at this
        exact this
      · have : ((l.length : Int) != (s + 2) / 3 + 1) = true := by simpa using h5
        rw [this]
        exact bad (by
          rintro (h | h)
          · exact h0 h
          · exact h5 h.2.2.1)
  · refine Ev.neg (by simpa using hn) (Ev.ret ?_)
    rw [decide_eq_false (fun h => hn h.1)]
end Go.Proofs.Ytkoimmeghdbodaa.Pure
namespace Go.Proofs.Ytkoimmeghdbodaa.Print
open Go.RowKit Go.Proofs.YtkoimmeghdbodaaW.PrintWords Go.Proofs.YtkoimmeghdbodaaW.PrintLast Go.Proofs.YtkoimmeghdbodaaW.PrintMore
attribute [local go_sem] max2_int min2_int max_two min_two max_three min_three max_four min_four
def spec_l71Places.l0 : Nat → Int → Int → List (S37) → Int → Int → List Int → Int → Option ((List (S37)) × Int)
 | 0, _, _, _, _, _, _, _ => none
 | k + 1, x1, x2, x7, x8, x9, x1000, x1001 => if x9 < x2 then (if x1 = 0 then (none) else ((spec_l6Rd_pick.f k x1000 x1001 12).bind fun bt206 => (if x7.length < 8796093022208 then (spec_l71Places.l0 k x1 x2 (x7 ++ [(⟨Int.tmod (wrap64 (x8 + x9)) x1, bt206.1⟩ : S37)]) x8 (wrap64 (x9 + 1)) x1000 bt206.2) else (none)))) else (some (x7, x1001))
def spec_l71Places.f (k : Nat) (s0_0 : List Int) (s0_1 : Int) (a1 : Int) (a2 : Int) : Option ((List (S37)) × Int) := (spec_l6Rd_pick.f k s0_0 s0_1 a1).bind fun bt204 => (spec_l71Places.l0 k a1 a2 (([] : List (S37))) bt204.1 0 s0_0 bt204.2)
def spec_l71Places.T6 : Bool × List (List Nat × List Nat) := (true, [([], []), ([], []), ([], []), ([1, 2], [1, 2]), ([], []), ([3, 4], [3, 4]), ([], []), ([6], [6]), ([5, 7], [5, 7]), ([8], [8]), ([0, 9, 7], [0, 9]), ([10, 10, 0, 1, 2, 3, 4, 5, 6, 7, 8, 9, 10], [0, 10])])
def spec_l71Places.B6 : List Nat := [0, 0, 0, 6, 0, 30, 0, 64, 254, 510, 1023, 2047]
theorem spec_l71Places.tab6 : rtab .any (opsOf Try.f67 6) = spec_l71Places.T6 := by kernel_rfl
theorem spec_l71Places.bits6 : waitsOk spec_l71Places.T6.2 spec_l71Places.B6 = true := by kernel_rfl
set_option maxHeartbeats 8000000 in
set_option maxRecDepth 100000 in
theorem spec_l71Places.calls (k : Nat) (g : Nat) (s0_0 : List Int) (s0_1 : Int) (a1 : Int) (a2 : Int) (r1 : List (S37)) (r2 : Int) (w0 w : World) (hI : IsS113 w0 w g s0_0 s0_1) (hB : Below w0.heap.size w0 w) (h : spec_l71Places.f k s0_0 s0_1 a1 a2 = some (r1, r2)) :
  Calls Try.prog 67 #[.pointer (some ⟨g, 0, none⟩), .int .i64 a1, .int .i64 a2] w fun e w' => ∃ v0_ : Value, e = .returned (v0_) ∧ Kd.R k37 37 w' w.heap.size (fun _ => True) v0_ r1 ∧ IsS113 w0 w' g s0_0 r2 ∧ Below w0.heap.size w0 w' ∧ KeepBut w w' g none := by
 have hu37 := Try.underlying37
 have HI0 := Az.mk hI
 have HK := Az.mk (KeepBut.refl w g none)
 have HL := Az.mk hB.size
 clear hI
 have HW0 := Az.mk hB.size
 have HB := Az.mk hB
 clear hB
 have H : ((spec_l6Rd_pick.f k s0_0 s0_1 a1).bind fun bt204 => (spec_l71Places.l0 k a1 a2 (([] : List (S37))) bt204.1 0 s0_0 bt204.2)) = some (r1, r2) := h
 clear h
 obtain ⟨y201, hy201⟩ : ∃ y_ : List (S37), y_ = (([] : List (S37))) := ⟨_, rfl⟩
 replace H : ((spec_l6Rd_pick.f k s0_0 s0_1 a1).bind fun bt204 => (spec_l71Places.l0 k a1 a2 y201 bt204.1 0 s0_0 bt204.2)) = some (r1, r2) := by first | (rw [hy201]; with_reducible exact H) | (have H2_ := (Option.bind_some _ _).symm.trans H; rw [hy201]; with_reducible exact H2_) | (have H2_ := (Option.bind_some _ _).symm.trans H; with_reducible exact H2_) | with_reducible exact H | (rw [hy201]; exact H) | exact H
 have Ny201 := Az.mk hy201
 clear hy201
 replace H := Option.bind_eq_some_iff.mp H
 obtain ⟨⟨t204, t205⟩, A40, H⟩ := H
 replace H : (spec_l71Places.l0 k a1 a2 y201 t204 0 s0_0 t205) = some (r1, r2) := H
 have A4 := Az.mk A40
 clear A40
 have H' := Az.mk H
 clear H
 go_enter Try.func67, Try.ntmps67
 go_wp2_with (first | ((with_reducible refine zqg (N := 10) rfl ?_); refine Kd.R_lit k37 _ 37 ?hg (N := 10) ?hd (xs := ([] : List (S37))) (inner := []) (ok := fun _ => True) (okp := fun _ => True) ?hr ?hp (fun _ hk => hk) trivial (Below.refl _ _) (Nat.le_refl _) (by simp) ?_; (case hd => rfl); (case hg => rfl); (case hr => first | (go_simp; done) | (go_simp; rfl)); (case hp => exact (Reps.none _ _)); intro v202 w5 ho6 hb hg_ hnew_; clear hg_ hnew_; (first | rw [← Ny201.out] at ho6 | (simp only [Int.reduceToNat] at ho6; rw [← Ny201.out] at ho6)); have n0_ := Az.mk (Kd.R_lower ho6 (keep_size (w := w) (g := g) (row := none) zH)); have n1_ := Az.mk (IsS113.below zI hb); have n2_ := Az.mk (KeepBut.trans zH (KeepBut.of_below hb g none) (.inl rfl)); have n3_ := Az.mk (below_step (by repeat (first | (with_reducible first | exact HB.out | apply zq2 | apply zq1 | apply zqd | refine zq3 ?_ (IsS113.ge HI0.out)) | exact HB.out)) hb); clear HI0; clear HK; clear HB; have HO203 := n0_; have HI0 := n1_; have HK := n2_; have HB := n3_; clear n0_ n1_ n2_ n3_; clear hb ho6) | ((with_reducible refine gate_callee (f := 65) rfl ?_); refine zq9 (some 13) rfl rfl Try.func65 (by kernel_rfl) rfl #[.pointer (some ⟨g, 0, none⟩), .int .i64 a1] rfl (by (try simp only [List.map_toArray, List.map_cons, List.map_nil]); first | done | rfl | (simp only [List.length_drop, List.length_take]; rfl)) ?_; (with_reducible refine (spec_l6Rd_pick.calls k g s0_0 s0_1 a1 t204 t205 w0 _ ?side1 ?side2 A4.out).mono ?_); (case side1 => repeat (first | (with_reducible first | exact HI0.out | apply IsS113.alloc | apply IsS113.drewN | apply IsS113.drew | apply IsS113.set_1) | exact HI0.out)); (case side2 => repeat (first | (with_reducible first | exact HB.out | apply zq2 | apply zq1 | apply zqd | refine zq3 ?_ (IsS113.ge HI0.out)) | exact HB.out)); rintro e w7 ⟨rfl, hi, hb, hk⟩; refine ⟨_, rfl, ?_⟩; have n0_ := Az.mk (Kd.R_mono (Kd.R_keep (IsS113.apart (show IsS113 w0 _ g s0_0 s0_1 from by repeat (first | (with_reducible first | exact HI0.out | apply IsS113.alloc | apply IsS113.drewN | apply IsS113.drew | apply IsS113.set_1) | exact HI0.out)) (by (with_reducible repeat (first | apply Kd.R_alloc | apply Kd.R_drewN | apply Kd.R_drew)); exact HO203.out) (by decide)) hk (fun _ h => h.2)) (fun _ h => h.1)); have n1_ := Az.mk (KeepBut.trans zH hk (.inl rfl)); have n2_ := Az.mk (hb); have n3_ := Az.mk (hi); clear HO203; clear HK; clear HB; clear HI0; have HO203 := n0_; have HK := n1_; have HB := n2_; have HI0 := n3_; clear n0_ n1_ n2_ n3_; (try clear hb); (try clear hb2); (try clear hk); (try clear hi)))
 go_loopg [7, 9] k (fun kq v7 v9 w' => ∃ (x7_1 : List (S37)) (x9_1 : Int) (x1001_1 : Int), v9 = .int .i64 x9_1 ∧ Az (spec_l71Places.l0 kq a1 a2 x7_1 t204 x9_1 s0_0 x1001_1 = some (r1, r2)) ∧ Az (kq ≤ k) ∧ Az (Kd.R k37 37 w' w.heap.size (fun _ => True) v7 x7_1) ∧ Az (IsS113 w0 w' g s0_0 x1001_1) ∧ Az (KeepBut w w' g none) ∧ Az (Below w0.heap.size w0 w'))
 case atStart => exact ⟨(y201), (0), (t205), (by first | rfl | (simp; done) | (simp [*]; done)), H', ⟨Nat.le_refl _⟩, ⟨by (with_reducible repeat (first | apply Kd.R_alloc | apply Kd.R_drewN | apply Kd.R_drew)); exact HO203.out⟩, ⟨by repeat (first | (with_reducible first | exact HI0.out | apply IsS113.alloc | apply IsS113.drewN | apply IsS113.drew | apply IsS113.set_1) | exact HI0.out)⟩, ⟨by repeat (first | (with_reducible first | exact HK.out | apply KeepBut.set_ | apply keep_drewN | apply keep_drew | apply keep_alloc) | exact HK.out)⟩, ⟨by repeat (first | (with_reducible first | exact HB.out | apply zq2 | apply zq1 | apply zqd | refine zq3 ?_ (IsS113.ge HI0.out)) | exact HB.out)⟩⟩
 case round =>
  clear H'
  try clear p2
  try clear c6
  obtain ⟨x7_1, x9_1, x1001_1, rfl, HA, HK1, HO_7, HI0, HK, HB⟩ := hrel
  cases gk with
  | zero => exact absurd HA.out (by simp [spec_l71Places.l0])
  | succ k1 =>
   have H := HA.out
   clear HA
   simp only [spec_l71Places.l0] at H
   by_cases c8 : x9_1 < a2
   ·rw [if_pos c8] at H
    have c8b0 : decide (x9_1 < a2) = true := decide_eq_true c8
    clear c8
    by_cases c9 : a1 = 0
    ·rw [if_pos c9] at H
     exact absurd H (by simp)
    ·rw [if_neg c9] at H
     have c9b0 : (a1 == 0) = false := beq_eq_false_iff_ne.mpr c9
     have c9b1 : (a1 != 0) = true := bne_iff_ne.mpr c9
     replace H := Option.bind_eq_some_iff.mp H
     obtain ⟨⟨t206, t207⟩, A100, H⟩ := H
     replace H : (if x7_1.length < 8796093022208 then (spec_l71Places.l0 k1 a1 a2 (x7_1 ++ [(⟨Int.tmod (wrap64 (t204 + x9_1)) a1, t206⟩ : S37)]) t204 (wrap64 (x9_1 + 1)) s0_0 t207) else (none)) = some (r1, r2) := H
     have A10 := Az.mk A100
     clear A100
     by_cases c11 : x7_1.length < 8796093022208
     ·rw [if_pos c11] at H
      have LMc11 := Az.mk c11
      clear c11
      obtain ⟨y208, hy208⟩ : ∃ y_ : List (S37), y_ = (x7_1 ++ [(⟨Int.tmod (wrap64 (t204 + x9_1)) a1, t206⟩ : S37)]) := ⟨_, rfl⟩
      replace H : (spec_l71Places.l0 k1 a1 a2 y208 t204 (wrap64 (x9_1 + 1)) s0_0 t207) = some (r1, r2) := by first | (rw [hy208]; with_reducible exact H) | (have H2_ := (Option.bind_some _ _).symm.trans H; rw [hy208]; with_reducible exact H2_) | (have H2_ := (Option.bind_some _ _).symm.trans H; with_reducible exact H2_) | with_reducible exact H | (rw [hy208]; exact H) | exact H
      have Ny208 := Az.mk hy208
      clear hy208
      have H' := Az.mk H
      clear H
      try go_wp2
      have n0_ := Az.mk (Kd.R_drew HO_7.out)
      have n1_ := Az.mk (IsS113.drew HI0.out)
      have n2_ := Az.mk (keep_drew HK.out)
      have n3_ := Az.mk (zqd HB.out)
      clear HO_7
      clear HI0
      clear HK
      clear HB
      have HO_7 := n0_
      have HI0 := n1_
      have HK := n2_
      have HB := n3_
      clear n0_ n1_ n2_ n3_
      refine start_ (n := 12) (S := fun w' => True) (ds := []) (bm 12 0) (by kernel_rfl) rfl rfl trivial (fun hHeld => ?_); refine with_tabW spec_l71Places.tab6 spec_l71Places.bits6 (fun HT_ HW_ => ?_)
      generalize wr.drew = w12 at HO_7 HI0 HK HB hHeld ⊢
      refine zPT HT_.out 0 (some 19) (bm 12 1) ?_
      refine zPT HT_.out 1 (some 20) (bm 12 3) ?_
      refine zPT HT_.out 2 (some 21) (bm 12 7) ?_
      refine zPT HT_.out 3 (some 22) (bm 12 15) ?_
      refine zPT HT_.out 4 (some 23) (bm 12 31) ?_
      refine zPT HT_.out 5 (some 24) (bm 12 63) ?_
      refine zPT HT_.out 6 (some 25) (bm 12 127) ?_
      refine one_ (i := 7) (N := some 26) (bm 12 255) rfl rfl (one_of HT_.out (by kernel_rfl)) (by decide) (fun K hK => ?_)
      refine goes_ Try.func65 (by kernel_rfl) rfl #[.pointer (some ⟨g, 0, none⟩), .int .i64 12] (by rfl) rfl rfl (by (try simp only [List.map_toArray, List.map_cons, List.map_nil]); first | done | rfl | (simp only [List.length_drop, List.length_take]; rfl)) ?_
      with_reducible refine (spec_l6Rd_pick.calls k1 g s0_0 x1001_1 12 t206 t207 w0 _ ?side1 ?side2 A10.out).mono ?_
      (case side1 => repeat (first | (with_reducible first | exact HI0.out | apply IsS113.alloc | apply IsS113.drewN | apply IsS113.drew | apply IsS113.set_1) | exact HI0.out))
      (case side2 => repeat (first | (with_reducible first | exact HB.out | apply zq2 | apply zq1 | apply zqd | refine zq3 ?_ (IsS113.ge HI0.out)) | exact HB.out))
      rintro e w13 ⟨rfl, hi, hb, hk⟩
      refine ⟨_, rfl, ?_⟩
      have n0_ := Az.mk (Kd.R_mono (Kd.R_keep (IsS113.apart (show IsS113 w0 _ g s0_0 x1001_1 from by repeat (first | (with_reducible first | exact HI0.out | apply IsS113.alloc | apply IsS113.drewN | apply IsS113.drew | apply IsS113.set_1) | exact HI0.out)) (by (with_reducible repeat (first | apply Kd.R_alloc | apply Kd.R_drewN | apply Kd.R_drew)); exact HO_7.out) (by decide)) hk (fun _ h => h.2)) (fun _ h => h.1))
      have n1_ := Az.mk (KeepBut.trans zH hk (.inl rfl))
      have n2_ := Az.mk (hb)
      have n3_ := Az.mk (hi)
      clear HO_7
      clear HK
      clear HB
      clear HI0
      have HO_7 := n0_
      have HK := n1_
      have HB := n2_
      have HI0 := n3_
      clear n0_ n1_ n2_ n3_
      (try clear hb)
      (try clear hb2)
      (try clear hk)
      (try clear hi)
      refine hK.out _ _ trivial (fun hHeld => ?_)
      clear hK K
      refine norm_ (a' := ?_) ?_ ?_
      rotate_left
      ·show Act.put _ (some 26) _ = _
       simp only [Act.put, zs1, zs2, zs3, i64_w, i32_w]
       rfl
      refine zPT HT_.out 8 (some 27) (bm 12 511) ?_
      refine one_ (i := 9) (N := some 28) (bm 12 1023) rfl rfl (one_of HT_.out (by kernel_rfl)) (by decide) (fun K hK => ?_)
      refine value_ (w1 := ?_) (v := ?_) (by rfl) rfl ?_ ?_
      rotate_left 2
      ·go_simp
       constructor
       ·rfl
       ·rfl
      refine hK.out _ _ trivial (fun hHeld => ?_)
      clear hK K
      refine norm_ (a' := ?_) ?_ ?_
      rotate_left
      ·show Act.put _ (some 28) _ = _
       simp only [Act.put, zs1, zs2, zs3, i64_w, i32_w]
       rfl
      refine one_ (i := 10) (N := some 29) (bm 12 2047) rfl rfl (one_of HT_.out (by kernel_rfl)) (by decide) (fun K hK => ?_)
      refine Kd.R_append_step k37 w.heap.size (by rfl) (.tmp 19) (.tmp 28) 27 37 (.agg #[(.int .i64 0), (.int .i64 0)]) 16 rfl Try.underlying27 info37 rfl (by decide) (by omega) u7 x7_1 (⟨Int.tmod (wrap64 (t204 + x9_1)) a1, t206⟩ : S37) [.int .i64 (Int.tmod (wrap64 (t204 + x9_1)) a1), .int .i64 t206] (fun _ => True) (fun _ => False) rfl rfl ?aP (fun _ hk => hk.elim) ?aF ?aO (Below.refl _ _) ?aS ?aL ?_
      (case aP => exact k37_mkM _ _ _ (⟨Int.tmod (wrap64 (t204 + x9_1)) a1, t206⟩ : S37))
      (case aF => exact (fun _ _ => trivial))
      (case aO => exact (by (with_reducible repeat (first | apply Kd.R_alloc | apply Kd.R_drewN | apply Kd.R_drew)); exact HO_7.out))
      (case aS => exact (keep_size (w := w) (g := g) (row := none) zH))
      (case aL => have := LMc11.out; omega)
      intro v209 w14 ho hb hg hat
      rw [← Ny208.out] at ho
      have n0_ := Az.mk (IsS113.grown zI hg (IsS113.own_ne HI0.out HO_7.out (by decide)))
      have n1_ := Az.mk (below_weaken (by repeat (first | (with_reducible first | exact HB.out | apply zq2 | apply zq1 | apply zqd | refine zq3 ?_ (IsS113.ge HI0.out)) | exact HB.out)) HL.out hb)
      have n2_ := Az.mk (KeepBut.trans zH (KeepBut.of_grown hg g) (Kd.R_base2 HO_7.out))
      have n3_ := Az.mk (ho)
      clear HI0
      clear HB
      clear HK
      clear HO_7
      have HI0 := n0_
      have HB := n1_
      have HK := n2_
      have HO210 := n3_
      clear n0_ n1_ n2_ n3_
      clear ho hb hg hat
      refine hK.out _ _ trivial (fun hHeld => ?_)
      clear hK K
      refine norm_ (a' := ?_) ?_ ?_
      rotate_left
      ·show Act.put _ (some 29) _ = _
       simp only [Act.put, zs1, zs2, zs3, i64_w, i32_w]
       rfl
      refine zPT HT_.out 11 (some 7) (bm 12 4095) ?_
      refine done_ (done_of HT_.out (by kernel_rfl)) ?_
      try go_wp2
      go_roundg k1
      case measure => have := HK1.out; omega
      case rel => exact ⟨(y208), (wrap64 (x9_1 + 1)), (t207), (by first | rfl | (simp; done) | (simp [*]; done)), H', ⟨by have := HK1.out; omega⟩, ⟨by (with_reducible repeat (first | apply Kd.R_alloc | apply Kd.R_drewN | apply Kd.R_drew)); exact HO210.out⟩, ⟨by repeat (first | (with_reducible first | exact HI0.out | apply IsS113.alloc | apply IsS113.drewN | apply IsS113.drew | apply IsS113.set_1) | exact HI0.out)⟩, ⟨by repeat (first | (with_reducible first | exact HK.out | apply KeepBut.set_ | apply keep_drewN | apply keep_drew | apply keep_alloc) | exact HK.out)⟩, ⟨by repeat (first | (with_reducible first | exact HB.out | apply zq2 | apply zq1 | apply zqd | refine zq3 ?_ (IsS113.ge HI0.out)) | exact HB.out)⟩⟩
     ·rw [if_neg c11] at H
      exact absurd H (by simp)
   ·rw [if_neg c8] at H
    have c8b0 : decide (x9_1 < a2) = false := decide_eq_false c8
    clear c8
    simp only [Option.some.injEq, Prod.mk.injEq] at H
    obtain ⟨rfl, rfl⟩ := H
    go_wp2
    go_ret
    exact ⟨_, by first | rfl | (simp [errW_none, errW_some] <;> rfl) | (simp [*, errW_none, errW_some] <;> rfl), by (with_reducible repeat (first | apply Kd.R_alloc | apply Kd.R_drewN | apply Kd.R_drew)); exact HO_7.out, by repeat (first | (with_reducible first | exact HI0.out | apply IsS113.alloc | apply IsS113.drewN | apply IsS113.drew | apply IsS113.set_1) | exact HI0.out), by repeat (first | (with_reducible first | exact HB.out | apply zq2 | apply zq1 | apply zqd | refine zq3 ?_ (IsS113.ge HI0.out)) | exact HB.out), by repeat (first | (with_reducible first | exact HK.out | apply KeepBut.set_ | apply keep_drewN | apply keep_drew | apply keep_alloc) | exact HK.out)⟩
end Go.Proofs.Ytkoimmeghdbodaa.Print
namespace Go.Proofs.Ytkoimmeghdbodaa.Print
open Go.RowKit Go.Proofs.YtkoimmeghdbodaaW.PrintWords Go.Proofs.YtkoimmeghdbodaaW.PrintLast Go.Proofs.YtkoimmeghdbodaaW.PrintMore
attribute [local go_sem] max2_int min2_int max_two min_two max_three min_three max_four min_four
def spec_SumOf.l0 : Nat → ByteArray → Int → Int → Option (Int)
 | 0, _, _, _ => none
 | k + 1, x0, x3, x4 => if x4 < (x0.size : Int) then (if x4 < 9 then (if 0 ≤ x4 then (spec_SumOf.l0 k x0 (wrap64 (x3 + (wrap64 ((wrap64 (bt x0 x4)) * (wrap64 ((wrap64 (65536 + x4)) + 1)))))) (wrap64 (x4 + 1))) else (none)) else (some x3)) else (some x3)
def spec_SumOf.f (k : Nat) (a0 : ByteArray) : Option (Int) := spec_SumOf.l0 k a0 0 0
set_option maxHeartbeats 8000000 in
set_option maxRecDepth 100000 in
theorem spec_SumOf.calls (k : Nat) (a0 : ByteArray) (r : Int) (w : World) (h : spec_SumOf.f k a0 = some r) :
  Calls Try.prog 95 #[.string a0] w fun e w' => e = .returned (.int .i64 r) ∧ Drawn0 w w' := by
 have H : (spec_SumOf.l0 k a0 0 0) = some r := h
 clear h
 have H' := Az.mk H
 clear H
 go_enter Try.func95, Try.ntmps95
 go_wp2
 go_loopg [3, 4] k (fun kq v3 v4 w' => ∃ (x3_1 : Int) (x4_1 : Int), v3 = .int .i64 x3_1 ∧ v4 = .int .i64 x4_1 ∧ Az (spec_SumOf.l0 kq a0 x3_1 x4_1 = some r) ∧ Az (kq ≤ k) ∧ Drawn0 w w')
 case atStart => exact ⟨(0), (0), (by first | rfl | (simp; done) | (simp [*]; done)), (by first | rfl | (simp; done) | (simp [*]; done)), H', ⟨Nat.le_refl _⟩, by repeat (first | exact Drawn0.refl _ | apply Drawn0.step)⟩
 case round =>
  clear H'
  obtain ⟨x3_1, x4_1, rfl, rfl, HA, HK1, ⟨m1, rfl⟩⟩ := hrel
  cases gk with
  | zero => exact absurd HA.out (by simp [spec_SumOf.l0])
  | succ k1 =>
   have H := HA.out
   clear HA
   simp only [spec_SumOf.l0] at H
   by_cases c2 : x4_1 < (a0.size : Int)
   ·rw [if_pos c2] at H
    have c2b0 : decide (x4_1 < (a0.size : Int)) = true := decide_eq_true c2
    clear c2
    by_cases c3 : x4_1 < 9
    ·rw [if_pos c3] at H
     have c3b0 : decide (x4_1 < 9) = true := decide_eq_true c3
     clear c3
     by_cases c4 : 0 ≤ x4_1
     ·rw [if_pos c4] at H
      have c4b0 : decide (0 ≤ x4_1) = true := decide_eq_true c4
      clear c4
      have H' := Az.mk H
      clear H
      have p5 : 0 ≤ (x4_1 : Int) := of_decide_eq_true (by first | (with_reducible assumption) | assumption)
      have q5 : x4_1 < (a0.size : Int) := of_decide_eq_true (by first | (with_reducible assumption) | assumption)
      have hx5 := bt_at a0 x4_1
      replace p5 := eq_true p5
      replace q5 := eq_true q5
      go_wp2
      go_roundg k1
      case measure => have := HK1.out; omega
      case rel => exact ⟨(wrap64 (x3_1 + (wrap64 ((wrap64 (bt a0 x4_1)) * (wrap64 ((wrap64 (65536 + x4_1)) + 1)))))), (wrap64 (x4_1 + 1)), (by first | rfl | (simp; done) | (simp [*]; done)), (by first | rfl | (simp; done) | (simp [*]; done)), H', ⟨by have := HK1.out; omega⟩, by repeat (first | exact Drawn0.refl _ | apply Drawn0.step)⟩
     ·rw [if_neg c4] at H
      exact absurd H (by simp)
    ·rw [if_neg c3] at H
     have c3b0 : decide (x4_1 < 9) = false := decide_eq_false c3
     clear c3
     obtain rfl := Option.some.inj H
     go_wp2
     go_ret
     exact ⟨by first | rfl | (simp; done) | (simp [*]; done), by repeat (first | exact Drawn0.refl _ | apply Drawn0.step)⟩
   ·rw [if_neg c2] at H
    have c2b0 : decide (x4_1 < (a0.size : Int)) = false := decide_eq_false c2
    clear c2
    obtain rfl := Option.some.inj H
    go_wp2
    go_ret
    exact ⟨by first | rfl | (simp; done) | (simp [*]; done), by repeat (first | exact Drawn0.refl _ | apply Drawn0.step)⟩
def spec_l11Ptr.f (k : Nat) (a0 : ByteArray) (l1 : List (S37)) : Option (Int × Int × (List (S37))) := (spec_SumOf.f k a0).bind fun t212 => ((some (([] : List (S37)) : List (S37))).bind fun y213 => (if y213.length + l1.length < 8796093022208 then (some ((a0.size : Int), t212, (y213 ++ l1))) else (none)))
set_option maxHeartbeats 8000000 in
set_option maxRecDepth 100000 in
theorem spec_l11Ptr.calls (k : Nat) (a0 : ByteArray) (A1 : Option Addr) (c1 : Nat) (l1 : List (S37)) (r1 : Int) (r2 : Int) (r3 : List (S37)) (w : World) (hr1 : Kd.C k37 w A1 l1.length l1) (hc1 : l1.length ≤ c1) (h : spec_l11Ptr.f k a0 l1 = some (r1, r2, r3)) :
  Calls Try.prog 69 #[.string a0, .slice A1 l1.length c1] w fun e w' => ∃ v2_ : Value, e = .returned (.agg #[.int .i64 r1, .int .i64 r2, v2_]) ∧ Kd.R k37 37 w' w.heap.size (fun _ => True) v2_ r3 ∧ Below w.heap.size w w' := by
 have hu29 := Try.underlying29
 have HR1 := Az.mk hr1
 have HC1 := Az.mk hc1
 clear hr1 hc1
 have HB := Az.mk (Below.refl w.heap.size w)
 have H : ((spec_SumOf.f k a0).bind fun t212 => ((some (([] : List (S37)) : List (S37))).bind fun y213 => (if y213.length + l1.length < 8796093022208 then (some ((a0.size : Int), t212, (y213 ++ l1))) else (none)))) = some (r1, r2, r3) := h
 clear h
 replace H := Option.bind_eq_some_iff.mp H
 obtain ⟨t212, A30, H⟩ := H
 replace H : ((some (([] : List (S37)) : List (S37))).bind fun y213 => (if y213.length + l1.length < 8796093022208 then (some ((a0.size : Int), t212, (y213 ++ l1))) else (none))) = some (r1, r2, r3) := H
 have A3 := Az.mk A30
 clear A30
 obtain ⟨y213, hy213⟩ : ∃ y_ : List (S37), y_ = (([] : List (S37))) := ⟨_, rfl⟩
 replace H : (if y213.length + l1.length < 8796093022208 then (some ((a0.size : Int), t212, (y213 ++ l1))) else (none)) = some (r1, r2, r3) := by first | (rw [hy213]; with_reducible exact H) | (have H2_ := (Option.bind_some _ _).symm.trans H; rw [hy213]; with_reducible exact H2_) | (have H2_ := (Option.bind_some _ _).symm.trans H; with_reducible exact H2_) | with_reducible exact H | (rw [hy213]; exact H) | exact H
 have Ny213 := Az.mk hy213
 clear hy213
 by_cases c4 : y213.length + l1.length < 8796093022208
 ·rw [if_pos c4] at H
  have LMc4 := Az.mk c4
  clear c4
  obtain ⟨y216, hy216⟩ : ∃ y_ : List (S37), y_ = (y213 ++ l1) := ⟨_, rfl⟩
  replace H : (some ((a0.size : Int), t212, y216)) = some (r1, r2, r3) := by first | (rw [hy216]; with_reducible exact H) | (have H2_ := (Option.bind_some _ _).symm.trans H; rw [hy216]; with_reducible exact H2_) | (have H2_ := (Option.bind_some _ _).symm.trans H; with_reducible exact H2_) | with_reducible exact H | (rw [hy216]; exact H) | exact H
  have Ny216 := Az.mk hy216
  clear hy216
  simp only [Option.some.injEq, Prod.mk.injEq] at H
  obtain ⟨rfl, rfl, rfl⟩ := H
  go_enter Try.func69, Try.ntmps69
  go_wp2_with (first | ((with_reducible refine zqg (N := 4) rfl ?_); refine zqb ?hg (N := 4) ?hd (cs := #[.int .i64 0, .int .i64 0, .slice none 0 0]) (t := 29) ?hr ?_; (case hd => rfl); (case hg => rfl); (case hr => first | (go_simp; done) | (go_simp; rfl)); intro gb211 hg w5 hbox hb; have n0_ := Az.mk (below_step zB hb); have n1_ := Az.mk (hbox); have n2_ := Az.mk ((by rw [hg]; exact (below_size zB) : w.heap.size ≤ gb211)); have n3_ := Az.mk ((by rw [hg]; exact (below_size zB) : w.heap.size ≤ gb211)); clear HB; have HB := n0_; have BK211 := n1_; have GW211 := n2_; have GE211 := n3_; clear n0_ n1_ n2_ n3_; clear hb hbox hg) | ((with_reducible refine gate_callee (f := 95) rfl ?_); refine zq9 (some 8) rfl rfl Try.func95 (by kernel_rfl) rfl #[.string a0] rfl (by (try simp only [List.map_toArray, List.map_cons, List.map_nil]); first | done | rfl | (simp only [List.length_drop, List.length_take]; rfl)) ?_; (with_reducible refine (spec_SumOf.calls k a0 t212 _ A3.out).mono ?_); rintro e w' ⟨rfl, ⟨nd, rfl⟩⟩; refine ⟨_, rfl, ?_⟩; (try (rw [drewN_self w5]; generalize hq_ : World.drewN w5 _ = w5; have n0_ : Az (w5.heap[gb211]? = some (.cells #[.int .i64 0, .int .i64 0, .slice none 0 0] 29 (0, 0))) := ⟨by rw [← hq_]; exact (by (with_reducible repeat (first | refine zq6 ?_ _ | refine zq8 ?_ | refine zq7 ?_ _)); exact BK211.out)⟩; have n1_ : Az (Below w.heap.size w w5) := ⟨by rw [← hq_]; exact (by repeat (first | (with_reducible first | exact HB.out | apply zq2 | apply zq1 | apply zqd | refine zq3 ?_ GE211.out) | exact HB.out))⟩; clear BK211 HB hq_; have BK211 := n0_; have HB := n1_; clear n0_ n1_))) | ((with_reducible refine zqg (N := 9) rfl ?_); refine Kd.R_lit k37 _ 37 ?hg (N := 9) ?hd (xs := ([] : List (S37))) (inner := []) (ok := fun _ => True) (okp := fun _ => True) ?hr ?hp (fun _ hk => hk) trivial (Below.refl _ _) (Nat.le_refl _) (by simp) ?_; (case hd => rfl); (case hg => rfl); (case hr => first | (go_simp; done) | (go_simp; rfl)); (case hp => exact (Reps.none _ _)); intro v214 w6 ho7 hb hg_ hnew_; clear hg_ hnew_; (first | rw [← Ny213.out] at ho7 | (simp only [Int.reduceToNat] at ho7; rw [← Ny213.out] at ho7)); have n0_ := Az.mk (Kd.R_lower ho7 (below_size (by repeat (first | (with_reducible first | exact HB.out | apply zq2 | apply zq1 | apply zqd | refine zq3 ?_ GE211.out) | exact HB.out)))); have n1_ := Az.mk (blk_below (g := gb211) (o := .cells #[.int .i64 0, .int .i64 0, .slice none 0 0] 29 (0, 0)) (by (with_reducible repeat (first | refine zq6 ?_ _ | refine zq8 ?_ | refine zq7 ?_ _)); exact BK211.out) hb); have n2_ := Az.mk (below_step (by repeat (first | (with_reducible first | exact HB.out | apply zq2 | apply zq1 | apply zqd | refine zq3 ?_ GE211.out) | exact HB.out)) hb); clear BK211; clear HB; have HO215 := n0_; have BK211 := n1_; have HB := n2_; clear n0_ n1_ n2_; clear hb ho7) | ((with_reducible refine gate_builtin (b := .append) (xs := #[.tmp 9, .tmp 10]) rfl ?_); at_builtin; refine Kd.R_append_rows k37 (w0 := w) w.heap.size rfl (.tmp 9) (.tmp 10) 27 37 (.agg #[(.int .i64 0), (.int .i64 0)]) 16 rfl Try.underlying27 info37 rfl (by decide) (by omega) v214 y213 l1 _ _ _ (fun _ => True) (fun _ => False) rfl rfl ?aO ?aR (fun _ _ h => h) (fun _ h => h.elim) ?aF ?aB ?aS ?aL ?_; (case aR => repeat (first | exact (Kd.C_below HR1.out HB.out) | (with_reducible refine Kd.C_alloc ?_ _) | (with_reducible refine Kd.C_drewN ?_ _) | (with_reducible refine Kd.C_drew ?_))); (case aB => exact (by repeat (first | (with_reducible first | exact HB.out | apply zq2 | apply zq1 | apply zqd | refine zq3 ?_ GE211.out) | exact HB.out))); (case aF => exact (fun _ _ => trivial)); (case aO => exact (by (with_reducible repeat (first | apply Kd.R_alloc | apply Kd.R_drewN | apply Kd.R_drew)); exact HO215.out)); (case aS => exact (below_size (by repeat (first | (with_reducible first | exact HB.out | apply zq2 | apply zq1 | apply zqd | refine zq3 ?_ GE211.out) | exact HB.out)))); (case aL => have := LMc4.out; omega); intro v217 w8 ho hb hg hat; rw [← Ny216.out] at ho; have n0_ := Az.mk (blk_grown (g := gb211) (o := .cells #[.int .i64 0, .int .i64 0, .slice none 0 0] 29 (0, 0)) (by (with_reducible repeat (first | refine zq6 ?_ _ | refine zq8 ?_ | refine zq7 ?_ _)); exact BK211.out) hg (Kd.R_ne HO215.out BK211.out (by decide))); have n1_ := Az.mk (hb); have n2_ := Az.mk (ho); clear BK211; clear HB; clear HO215; have BK211 := n0_; have HB := n1_; have HO218 := n2_; clear n0_ n1_ n2_; clear ho hb hg hat; obtain ⟨Ao9, co9, eo9⟩ := Kd.R_slice HO218.out; subst eo9; have hcz10_0 : w8.cell? ⟨gb211, 0, none⟩ = some (.int .i64 0) := (zq4 BK211.out 0).trans rfl; have hcz10_1 : w8.cell? ⟨gb211, 1, none⟩ = some (.int .i64 0) := (zq4 BK211.out 1).trans rfl; have hcz10_2 : w8.cell? ⟨gb211, 2, none⟩ = some (.slice none 0 0) := (zq4 BK211.out 2).trans rfl; have hfz10_0 := zq5 BK211.out 0; have hfz10_1 := zq5 BK211.out 1; have hfz10_2 := zq5 BK211.out 2))
  refine bodyPost_ret (results_cell_row rfl _ _ gb211 29 #[.int .i64 (a0.size : Int), .int .i64 t212, .slice Ao9 y216.length co9] (0, 0) _ rfl (by (with_reducible repeat (first | refine zq6 ?_ _ | refine zq8 ?_ | refine zq7 ?_ _)); refine blk_put (cs := #[.int .i64 (a0.size : Int), .int .i64 t212, .slice none 0 0]) ?_ 2 _ rfl; (with_reducible repeat (first | refine zq6 ?_ _ | refine zq8 ?_ | refine zq7 ?_ _)); refine blk_put (cs := #[.int .i64 (a0.size : Int), .int .i64 0, .slice none 0 0]) ?_ 1 _ rfl; (with_reducible repeat (first | refine zq6 ?_ _ | refine zq8 ?_ | refine zq7 ?_ _)); refine blk_put (cs := #[.int .i64 0, .int .i64 0, .slice none 0 0]) ?_ 0 _ rfl; (with_reducible repeat (first | refine zq6 ?_ _ | refine zq8 ?_ | refine zq7 ?_ _)); exact BK211.out) Try.underlying29 rfl (by kernel_rfl)) rfl ?_
  exact ⟨_, by first | rfl | (simp [errW_none, errW_some] <;> rfl) | (simp [*, errW_none, errW_some] <;> rfl), by (with_reducible repeat (first | apply Kd.R_alloc | apply Kd.R_drewN | apply Kd.R_drew)); exact Kd.R_mono (Kd.R_far (p := ⟨gb211, 2, none⟩) (Kd.R_far (p := ⟨gb211, 1, none⟩) (Kd.R_far (p := ⟨gb211, 0, none⟩) (Kd.R_types HO218.out BK211.out (by decide)) (fun _ hk => hk.2) (.int .i64 (a0.size : Int))) (fun _ hk => hk.2) (.int .i64 t212)) (fun _ hk => hk.2) (.slice Ao9 y216.length co9)) (fun _ hk => trivial), by repeat (first | (with_reducible first | exact HB.out | apply zq2 | apply zq1 | apply zqd | refine zq3 ?_ GE211.out) | exact HB.out)⟩
 ·rw [if_neg c4] at H
  exact absurd H (by simp)
def spec_l71Ptr.f (k : Nat) (s0_0 : List Int) (s0_1 : Int) (a1 : Int) : Option (Int × Int × (List (S37)) × Int) := (spec_l71Text.f k s0_0 s0_1 (wrap64 ((wrap64 (3 * (mn 3 (wrap64 (a1 - 1))))) - 1))).bind fun bt220 => (if bt220.1.size + 1 ≤ 9223372036854775807 then ((spec_l2Cols.f ((bt220.1 ++ (⟨#[107]⟩ : ByteArray)).size : Int)).bind fun t222 => ((spec_l71Places.f k s0_0 bt220.2 a1 (wrap64 (t222 + 1))).bind fun bt223 => ((spec_l11Ptr.f k (bt220.1 ++ (⟨#[107]⟩ : ByteArray)) bt223.1).bind fun bt227 => (some (bt227.1, bt227.2.1, bt227.2.2, bt223.2))))) else (none))
set_option maxHeartbeats 8000000 in
set_option maxRecDepth 100000 in
theorem spec_l71Ptr.calls (k : Nat) (g : Nat) (s0_0 : List Int) (s0_1 : Int) (a1 : Int) (r1 : Int) (r2 : Int) (r3 : List (S37)) (r4 : Int) (w0 w : World) (hI : IsS113 w0 w g s0_0 s0_1) (hB : Below w0.heap.size w0 w) (h : spec_l71Ptr.f k s0_0 s0_1 a1 = some (r1, r2, r3, r4)) :
  Calls Try.prog 94 #[.pointer (some ⟨g, 0, none⟩), .int .i64 a1] w fun e w' => ∃ v2_ : Value, e = .returned (.agg #[.int .i64 r1, .int .i64 r2, v2_]) ∧ Kd.R k37 37 w' w.heap.size (fun _ => True) v2_ r3 ∧ IsS113 w0 w' g s0_0 r4 ∧ Below w0.heap.size w0 w' ∧ KeepBut w w' g none := by
 have hu29 := Try.underlying29
 have HI0 := Az.mk hI
 have HK := Az.mk (KeepBut.refl w g none)
 have HL := Az.mk hB.size
 clear hI
 have HW0 := Az.mk hB.size
 have HB := Az.mk hB
 clear hB
 have H : ((spec_l71Text.f k s0_0 s0_1 (wrap64 ((wrap64 (3 * (mn 3 (wrap64 (a1 - 1))))) - 1))).bind fun bt220 => (if bt220.1.size + 1 ≤ 9223372036854775807 then ((spec_l2Cols.f ((bt220.1 ++ (⟨#[107]⟩ : ByteArray)).size : Int)).bind fun t222 => ((spec_l71Places.f k s0_0 bt220.2 a1 (wrap64 (t222 + 1))).bind fun bt223 => ((spec_l11Ptr.f k (bt220.1 ++ (⟨#[107]⟩ : ByteArray)) bt223.1).bind fun bt227 => (some (bt227.1, bt227.2.1, bt227.2.2, bt223.2))))) else (none))) = some (r1, r2, r3, r4) := h
 clear h
 obtain ⟨ji3, hji3⟩ : ∃ j_ : Int, (mn 3 (wrap64 (a1 - 1))) = j_ := ⟨_, rfl⟩
 replace H : ((spec_l71Text.f k s0_0 s0_1 (wrap64 ((wrap64 (3 * (ji3))) - 1))).bind fun bt220 => (if bt220.1.size + 1 ≤ 9223372036854775807 then ((spec_l2Cols.f ((bt220.1 ++ (⟨#[107]⟩ : ByteArray)).size : Int)).bind fun t222 => ((spec_l71Places.f k s0_0 bt220.2 a1 (wrap64 (t222 + 1))).bind fun bt223 => ((spec_l11Ptr.f k (bt220.1 ++ (⟨#[107]⟩ : ByteArray)) bt223.1).bind fun bt227 => (some (bt227.1, bt227.2.1, bt227.2.2, bt223.2))))) else (none))) = some (r1, r2, r3, r4) := by first | (rw [hji3] at H; exact H) | (simp only [hji3] at H ⊢; exact H)
 (try (have hji3h : ji3 ≤ 3 := by (rw [← hji3]; unfold mn; (repeat' split) <;> omega)))
 (try (have hji3g : ji3 ≤ 64 := by omega))
 have hji3_ : (if (wrap64 (a1 - 1)) < 3 then (wrap64 (a1 - 1)) else 3) = ji3 := hji3
 replace H := Option.bind_eq_some_iff.mp H
 obtain ⟨⟨t220, t221⟩, A40, H⟩ := H
 replace H : (if t220.size + 1 ≤ 9223372036854775807 then ((spec_l2Cols.f ((t220 ++ (⟨#[107]⟩ : ByteArray)).size : Int)).bind fun t222 => ((spec_l71Places.f k s0_0 t221 a1 (wrap64 (t222 + 1))).bind fun bt223 => ((spec_l11Ptr.f k (t220 ++ (⟨#[107]⟩ : ByteArray)) bt223.1).bind fun bt227 => (some (bt227.1, bt227.2.1, bt227.2.2, bt223.2))))) else (none)) = some (r1, r2, r3, r4) := H
 have A4 := Az.mk A40
 clear A40
 by_cases c5 : t220.size + 1 ≤ 9223372036854775807
 ·rw [if_pos c5] at H
  have c5b0 := eq_true c5
  have c5b1 : decide (t220.size + 1 ≤ 9223372036854775807) = true := decide_eq_true c5
  try have c5b2 : (9223372036854775807 < t220.size + 1) = False := eq_false (Nat.not_lt.2 c5)
  replace H := Option.bind_eq_some_iff.mp H
  obtain ⟨t222, A60, H⟩ := H
  replace H : ((spec_l71Places.f k s0_0 t221 a1 (wrap64 (t222 + 1))).bind fun bt223 => ((spec_l11Ptr.f k (t220 ++ (⟨#[107]⟩ : ByteArray)) bt223.1).bind fun bt227 => (some (bt227.1, bt227.2.1, bt227.2.2, bt223.2)))) = some (r1, r2, r3, r4) := H
  have A6 := Az.mk A60
  clear A60
  replace H := Option.bind_eq_some_iff.mp H
  obtain ⟨⟨t223, t226⟩, A70, H⟩ := H
  replace H : ((spec_l11Ptr.f k (t220 ++ (⟨#[107]⟩ : ByteArray)) t223).bind fun bt227 => (some (bt227.1, bt227.2.1, bt227.2.2, t226))) = some (r1, r2, r3, r4) := H
  have A7 := Az.mk A70
  clear A70
  replace H := Option.bind_eq_some_iff.mp H
  obtain ⟨⟨t227, t228, t229⟩, A80, H⟩ := H
  replace H : (some (t227, t228, t229, t226)) = some (r1, r2, r3, r4) := H
  have A8 := Az.mk A80
  clear A80
  simp only [Option.some.injEq, Prod.mk.injEq] at H
  obtain ⟨rfl, rfl, rfl, rfl⟩ := H
  go_enter Try.func94, Try.ntmps94
  go_wp2_with (first | ((with_reducible refine zqg (N := 4) rfl ?_); refine zqb ?hg (N := 4) ?hd (cs := #[.int .i64 0, .int .i64 0, .slice none 0 0]) (t := 29) ?hr ?_; (case hd => rfl); (case hg => rfl); (case hr => first | (go_simp; done) | (go_simp; rfl)); intro gb219 hg w9 hbox hb; have n0_ := Az.mk (IsS113.below zI hb); have n1_ := Az.mk (KeepBut.trans zH (KeepBut.of_below hb g none) (.inl rfl)); have n2_ := Az.mk (below_step (by repeat (first | (with_reducible first | exact HB.out | apply zq2 | apply zq1 | apply zqd | refine zq3 ?_ (IsS113.ge HI0.out)) | exact HB.out)) hb); have n3_ := Az.mk (hbox); have n4_ := Az.mk ((by rw [hg]; exact (keep_size (w := w) (g := g) (row := none) zH) : w.heap.size ≤ gb219)); have n5_ := Az.mk ((Nat.le_trans HW0.out (by rw [hg]; exact (keep_size (w := w) (g := g) (row := none) zH) : w.heap.size ≤ gb219) : w0.heap.size ≤ gb219)); have n6_ := Az.mk ((by rw [hg]; exact Nat.ne_of_lt (IsS113.lt (show IsS113 w0 _ g s0_0 s0_1 from by repeat (first | (with_reducible first | exact HI0.out | apply IsS113.alloc | apply IsS113.drewN | apply IsS113.drew | apply IsS113.set_1) | exact HI0.out))) : g ≠ gb219)); have n7_ := Az.mk ((by rw [hg]; exact Nat.ne_of_gt (IsS113.lt (show IsS113 w0 _ g s0_0 s0_1 from by repeat (first | (with_reducible first | exact HI0.out | apply IsS113.alloc | apply IsS113.drewN | apply IsS113.drew | apply IsS113.set_1) | exact HI0.out))) : gb219 ≠ g)); clear HI0; clear HK; clear HB; have HI0 := n0_; have HK := n1_; have HB := n2_; have BK219 := n3_; have GW219 := n4_; have GE219 := n5_; have NB0_219 := n6_; have NB219_0 := n7_; clear n0_ n1_ n2_ n3_ n4_ n5_ n6_ n7_; clear hb hbox hg) | ((with_reducible refine gate_callee (f := 66) rfl ?_); refine zq9 (some 12) rfl rfl Try.func66 (by kernel_rfl) rfl #[.pointer (some ⟨g, 0, none⟩), .int .i64 (wrap64 ((wrap64 (3 * (ji3))) - 1))] rfl (by (try simp only [List.map_toArray, List.map_cons, List.map_nil]); first | done | (simp only [hji3]; rfl) | rfl | (simp only [List.length_drop, List.length_take]; rfl)) ?_; (with_reducible refine (spec_l71Text.calls k g s0_0 s0_1 (wrap64 ((wrap64 (3 * (ji3))) - 1)) t220 t221 w0 _ ?side1 ?side2 A4.out).mono ?_); (case side1 => repeat (first | (with_reducible first | exact HI0.out | apply IsS113.alloc | apply IsS113.drewN | apply IsS113.drew | apply IsS113.set_1 | refine IsS113.far ?_ NB0_219.out _) | exact HI0.out)); (case side2 => repeat (first | (with_reducible first | exact HB.out | apply zq2 | apply zq1 | apply zqd | refine zq3 ?_ (IsS113.ge HI0.out) | refine zq3 ?_ GE219.out) | exact HB.out)); rintro e w10 ⟨rfl, hi, hb, hk⟩; refine ⟨_, rfl, ?_⟩; have n0_ := Az.mk (KeepBut.blk hk (g' := gb219) (o := .cells #[.int .i64 0, .int .i64 0, .slice none 0 0] 29 (0, 0)) (by (with_reducible repeat (first | refine zq6 ?_ _ | refine zq8 ?_ | refine zq7 ?_ _)); exact BK219.out) NB219_0.out (by simp)); have n1_ := Az.mk (KeepBut.trans (by repeat (first | (with_reducible first | exact HK.out | apply KeepBut.set_ | apply keep_drewN | apply keep_drew | apply keep_alloc | refine keep_far ?_ GW219.out _) | exact HK.out)) hk (.inl rfl)); have n2_ := Az.mk (hb); have n3_ := Az.mk (hi); clear BK219; clear HK; clear HB; clear HI0; have BK219 := n0_; have HK := n1_; have HB := n2_; have HI0 := n3_; clear n0_ n1_ n2_ n3_; (try clear hb); (try clear hb2); (try clear hk); (try clear hi)) | (go_at_call 68; refine (spec_l2Cols.calls ((t220.size : Int) + 1) t222 _ (by have h_ := A6.out; rw [show ((t220 ++ (⟨#[107]⟩ : ByteArray)).size : Int) = ((t220.size : Int) + 1) from by rw [ByteArray.size_append]; rfl] at h_; exact h_)).mono ?_; rintro e w' ⟨rfl, ⟨nd, rfl⟩⟩; (try (rw [drewN_self w10]; generalize hq_ : World.drewN w10 _ = w10; have n0_ : Az (w10.heap[gb219]? = some (.cells #[.int .i64 0, .int .i64 0, .slice none 0 0] 29 (0, 0))) := ⟨by rw [← hq_]; exact (by (with_reducible repeat (first | refine zq6 ?_ _ | refine zq8 ?_ | refine zq7 ?_ _)); exact BK219.out)⟩; have n1_ : Az (IsS113 w0 w10 g s0_0 t221) := ⟨by rw [← hq_]; exact (by repeat (first | (with_reducible first | exact HI0.out | apply IsS113.alloc | apply IsS113.drewN | apply IsS113.drew | apply IsS113.set_1 | refine IsS113.far ?_ NB0_219.out _) | exact HI0.out))⟩; have n2_ : Az (KeepBut w w10 g none) := ⟨by rw [← hq_]; exact (by repeat (first | (with_reducible first | exact HK.out | apply KeepBut.set_ | apply keep_drewN | apply keep_drew | apply keep_alloc | refine keep_far ?_ GW219.out _) | exact HK.out))⟩; have n3_ : Az (Below w0.heap.size w0 w10) := ⟨by rw [← hq_]; exact (by repeat (first | (with_reducible first | exact HB.out | apply zq2 | apply zq1 | apply zqd | refine zq3 ?_ (IsS113.ge HI0.out) | refine zq3 ?_ GE219.out) | exact HB.out))⟩; clear BK219 HI0 HK HB hq_; have BK219 := n0_; have HI0 := n1_; have HK := n2_; have HB := n3_; clear n0_ n1_ n2_ n3_))) | ((with_reducible refine gate_callee (f := 67) rfl ?_); refine zq9 (some 21) rfl rfl Try.func67 (by kernel_rfl) rfl #[.pointer (some ⟨g, 0, none⟩), .int .i64 a1, .int .i64 (wrap64 (t222 + 1))] rfl (by (try simp only [List.map_toArray, List.map_cons, List.map_nil]); first | done | rfl | (simp only [List.length_drop, List.length_take]; rfl)) ?_; (with_reducible refine (spec_l71Places.calls k g s0_0 t221 a1 (wrap64 (t222 + 1)) t223 t226 w0 _ ?side1 ?side2 A7.out).mono ?_); (case side1 => repeat (first | (with_reducible first | exact HI0.out | apply IsS113.alloc | apply IsS113.drewN | apply IsS113.drew | apply IsS113.set_1 | refine IsS113.far ?_ NB0_219.out _) | exact HI0.out)); (case side2 => repeat (first | (with_reducible first | exact HB.out | apply zq2 | apply zq1 | apply zqd | refine zq3 ?_ (IsS113.ge HI0.out) | refine zq3 ?_ GE219.out) | exact HB.out)); rintro e w11 ⟨v224, rfl, ho0, hi, hb, hk⟩; refine ⟨_, rfl, ?_⟩; have n0_ := Az.mk (KeepBut.blk hk (g' := gb219) (o := .cells #[.int .i64 0, .int .i64 0, .slice none 0 0] 29 (0, 0)) (by (with_reducible repeat (first | refine zq6 ?_ _ | refine zq8 ?_ | refine zq7 ?_ _)); exact BK219.out) NB219_0.out (by simp)); have n1_ := Az.mk (Kd.R_lower ho0 (keep_size (w := w) (g := g) (row := none) (by repeat (first | (with_reducible first | exact HK.out | apply KeepBut.set_ | apply keep_drewN | apply keep_drew | apply keep_alloc | refine keep_far ?_ GW219.out _) | exact HK.out)))); have n2_ := Az.mk (KeepBut.trans (by repeat (first | (with_reducible first | exact HK.out | apply KeepBut.set_ | apply keep_drewN | apply keep_drew | apply keep_alloc | refine keep_far ?_ GW219.out _) | exact HK.out)) hk (.inl rfl)); have n3_ := Az.mk (hb); have n4_ := Az.mk (hi); clear BK219; clear HK; clear HB; clear HI0; have BK219 := n0_; have HO225 := n1_; have HK := n2_; have HB := n3_; have HI0 := n4_; clear n0_ n1_ n2_ n3_ n4_; (try clear hb); (try clear hb2); (try clear hk); (try clear hi); (try clear ho0); obtain ⟨Ao12, co12, eo12⟩ := Kd.R_slice HO225.out; subst eo12) | ((with_reducible refine gate_callee (f := 69) rfl ?_); refine zq9 (some 22) rfl rfl Try.func69 (by kernel_rfl) rfl #[.string (t220 ++ (⟨#[107]⟩ : ByteArray)), .slice Ao12 t223.length co12] rfl (by (try simp only [List.map_toArray, List.map_cons, List.map_nil]); first | done | rfl | (simp only [List.length_drop, List.length_take]; rfl)) ?_; (with_reducible refine (spec_l11Ptr.calls k (t220 ++ (⟨#[107]⟩ : ByteArray)) _ _ t223 t227 t228 t229 _ ?side1 ?side2 A8.out).mono ?_); (case side1 => repeat (first | exact (Kd.R_reads' HO225.out).2.2 | (with_reducible refine Kd.C_alloc ?_ _) | (with_reducible refine Kd.C_drewN ?_ _) | (with_reducible refine Kd.C_drew ?_))); (case side2 => exact (Kd.R_reads' HO225.out).2.1); rintro e w13 ⟨v230, rfl, ho0, hb⟩; refine ⟨_, rfl, ?_⟩; have n0_ := Az.mk (Kd.R_elder' (by (with_reducible repeat (first | apply Kd.R_alloc | apply Kd.R_drewN | apply Kd.R_drew)); exact HO225.out) (Kd.R_base ho0) hb); have n1_ := Az.mk (Kd.R_lower (Kd.R_new' ho0 (Kd.R_lt (by (with_reducible repeat (first | apply Kd.R_alloc | apply Kd.R_drewN | apply Kd.R_drew)); exact HO225.out))) (keep_size (w := w) (g := g) (row := none) (by repeat (first | (with_reducible first | exact HK.out | apply KeepBut.set_ | apply keep_drewN | apply keep_drew | apply keep_alloc | refine keep_far ?_ GW219.out _) | exact HK.out)))); have n2_ := Az.mk (IsS113.below (by repeat (first | (with_reducible first | exact HI0.out | apply IsS113.alloc | apply IsS113.drewN | apply IsS113.drew | apply IsS113.set_1 | refine IsS113.far ?_ NB0_219.out _) | exact HI0.out)) hb); have n3_ := Az.mk (blk_below (g := gb219) (o := .cells #[.int .i64 0, .int .i64 0, .slice none 0 0] 29 (0, 0)) (by (with_reducible repeat (first | refine zq6 ?_ _ | refine zq8 ?_ | refine zq7 ?_ _)); exact BK219.out) hb); have n4_ := Az.mk (KeepBut.trans (by repeat (first | (with_reducible first | exact HK.out | apply KeepBut.set_ | apply keep_drewN | apply keep_drew | apply keep_alloc | refine keep_far ?_ GW219.out _) | exact HK.out)) (KeepBut.of_below hb g none) (.inl rfl)); have n5_ := Az.mk (below_step (by repeat (first | (with_reducible first | exact HB.out | apply zq2 | apply zq1 | apply zqd | refine zq3 ?_ (IsS113.ge HI0.out) | refine zq3 ?_ GE219.out) | exact HB.out)) hb); clear HO225; clear HI0; clear BK219; clear HK; clear HB; have HO225 := n0_; have HO231 := n1_; have HI0 := n2_; have BK219 := n3_; have HK := n4_; have HB := n5_; clear n0_ n1_ n2_ n3_ n4_ n5_; (try clear hb); (try clear hb2); (try clear hk); (try clear hi); (try clear ho0); have hnb14 := NB219_0.out; have hnc14 := NB0_219.out; have hcz15_0 : w13.cell? ⟨gb219, 0, none⟩ = some (.int .i64 0) := (zq4 BK219.out 0).trans rfl; have hcz15_1 : w13.cell? ⟨gb219, 1, none⟩ = some (.int .i64 0) := (zq4 BK219.out 1).trans rfl; have hcz15_2 : w13.cell? ⟨gb219, 2, none⟩ = some (.slice none 0 0) := (zq4 BK219.out 2).trans rfl; have hfz15_0 := zq5 BK219.out 0; have hfz15_1 := zq5 BK219.out 1; have hfz15_2 := zq5 BK219.out 2; obtain ⟨Ao16, co16, eo16⟩ := Kd.R_slice HO231.out; subst eo16))
  refine bodyPost_ret (results_cell_row rfl _ _ gb219 29 #[.int .i64 t227, .int .i64 t228, .slice Ao16 t229.length co16] (0, 0) _ rfl (by (with_reducible repeat (first | refine zq6 ?_ _ | refine zq8 ?_ | refine zq7 ?_ _)); refine blk_put (cs := #[.int .i64 t227, .int .i64 t228, .slice none 0 0]) ?_ 2 _ rfl; (with_reducible repeat (first | refine zq6 ?_ _ | refine zq8 ?_ | refine zq7 ?_ _)); refine blk_put (cs := #[.int .i64 t227, .int .i64 0, .slice none 0 0]) ?_ 1 _ rfl; (with_reducible repeat (first | refine zq6 ?_ _ | refine zq8 ?_ | refine zq7 ?_ _)); refine blk_put (cs := #[.int .i64 0, .int .i64 0, .slice none 0 0]) ?_ 0 _ rfl; (with_reducible repeat (first | refine zq6 ?_ _ | refine zq8 ?_ | refine zq7 ?_ _)); exact BK219.out) Try.underlying29 rfl (by kernel_rfl)) rfl ?_
  exact ⟨_, by first | rfl | (simp [errW_none, errW_some] <;> rfl) | (simp only [← hji3]; first | rfl | (simp [errW_none, errW_some] <;> rfl)) | (simp [*, errW_none, errW_some] <;> rfl), by (with_reducible repeat (first | apply Kd.R_alloc | apply Kd.R_drewN | apply Kd.R_drew)); exact Kd.R_mono (Kd.R_far (p := ⟨gb219, 2, none⟩) (Kd.R_far (p := ⟨gb219, 1, none⟩) (Kd.R_far (p := ⟨gb219, 0, none⟩) (Kd.R_types HO231.out BK219.out (by decide)) (fun _ hk => hk.2) (.int .i64 t227)) (fun _ hk => hk.2) (.int .i64 t228)) (fun _ hk => hk.2) (.slice Ao16 t229.length co16)) (fun _ hk => trivial), by repeat (first | (with_reducible first | exact HI0.out | apply IsS113.alloc | apply IsS113.drewN | apply IsS113.drew | apply IsS113.set_1 | refine IsS113.far ?_ NB0_219.out _) | exact HI0.out), by repeat (first | (with_reducible first | exact HB.out | apply zq2 | apply zq1 | apply zqd | refine zq3 ?_ (IsS113.ge HI0.out) | refine zq3 ?_ GE219.out) | exact HB.out), by repeat (first | (with_reducible first | exact HK.out | apply KeepBut.set_ | apply keep_drewN | apply keep_drew | apply keep_alloc | refine keep_far ?_ GW219.out _) | exact HK.out)⟩
 ·rw [if_neg c5] at H
  exact absurd H (by simp)
end Go.Proofs.Ytkoimmeghdbodaa.Print
namespace Go.Proofs.Ytkoimmeghdbodaa.Print
open Go.RowKit Go.Proofs.YtkoimmeghdbodaaW.PrintWords Go.Proofs.YtkoimmeghdbodaaW.PrintLast Go.Proofs.YtkoimmeghdbodaaW.PrintMore
attribute [local go_sem] max2_int min2_int max_two min_two max_three min_three max_four min_four
end Go.Proofs.Ytkoimmeghdbodaa.Print
namespace Go.Proofs.Ytkoimmeghdbodaa.Pure
open Go.RowKit Go.Proofs.Ytkoimmeghdbodaa.Print Go.Proofs.YtkoimmeghdbodaaW.PrintWords
theorem sumE_l0 (s : ByteArray) (hs : s.size ≤ 1000000) (q : Nat) : ∀ (i : Nat) (a : Int), i + q = s.size → ∃ r, Ev (fun k => spec_SumOf.l0 k s a (i : Int)) r := by
  induction q with
  | zero =>
    intro i a hi
    refine ⟨a, Ev.next ?_⟩
    simp only [spec_SumOf.l0]
    exact Ev.neg (by omega) (Ev.ret rfl)
  | succ q ih =>
    intro i a hi
    have e : wrap64 ((i : Int) + 1) = ((i + 1 : Nat) : Int) := by rw [wrap_ok (by omega)]; omega
    by_cases c : (i : Int) < 9
    · obtain ⟨r, hr⟩ := ih (i + 1) (wrap64 (a + (wrap64 ((wrap64 (bt s (i : Int))) * (wrap64 ((wrap64 (65536 + (i : Int))) + 1)))))) (by omega)
      refine ⟨r, Ev.next ?_⟩
      simp only [spec_SumOf.l0, e]
      clear e
      exact Ev.pos (by omega) (Ev.pos c (Ev.pos (by omega) hr))
    · refine ⟨a, Ev.next ?_⟩
      simp only [spec_SumOf.l0]
      exact Ev.pos (by omega) (Ev.neg c (Ev.ret rfl))
theorem sumE (s : ByteArray) (hs : s.size ≤ 1000000) : ∃ r, Ev (fun k => spec_SumOf.f k s) r := sumE_l0 s hs s.size 0 0 (Nat.zero_add _)
theorem l11E (s : ByteArray) (hs : s.size ≤ 1000000) (l : List S37) (hl : l.length ≤ 1000000) : ∃ m, Ev (fun k => spec_l11Ptr.f k s l) ((s.size : Int), m, l) := by
  obtain ⟨m, hm⟩ := sumE s hs
  refine ⟨m, ?_⟩
  unfold spec_l11Ptr.f
  exact Ev.bind hm (Ev.take rfl (Ev.pos (by simp; omega) (Ev.ret (by simp))))
theorem places_l0 {b : List Int} (hb : Code b) {n c : Int} (hn : 3 ≤ n ∧ n ≤ 4) (hc : c ≤ 50) (x8 : Int) (d : Nat) : ∀ (i : Nat) (l : List S37) (p : Int), (i : Int) + d = c → l.length = i → 0 ≤ p → p + d ≤ 1000000 →
    ∃ (r : List S37) (q : Int), Ev (fun k => spec_l71Places.l0 k n c l x8 (i : Int) b p) (r, q) ∧ (r.length : Int) = c ∧ p ≤ q ∧ q ≤ p + d := by
  induction d with
  | zero =>
    intro i l p hi hl hp0 hp
    refine ⟨l, p, Ev.next ?_, by omega, by omega, by omega⟩
    simp only [spec_l71Places.l0]
    exact Ev.neg (by omega) (Ev.ret rfl)
  | succ d ih =>
    intro i l p hi hl hp0 hp
    have e : wrap64 ((i : Int) + 1) = ((i + 1 : Nat) : Int) := by rw [wrap_ok (by omega)]; omega
    obtain ⟨x, e1, _, _, _⟩ := pick_ev hb p 12 (by omega) (by omega)
    obtain ⟨r, q, e2, h1, h2, h3⟩ := ih (i + 1) (l ++ [(⟨Int.tmod (wrap64 (x8 + (i : Int))) n, x⟩ : S37)]) (p + 1) (by omega) (by simp [hl]) (by omega) (by omega)
    refine ⟨r, q, Ev.next ?_, h1, by omega, by omega⟩
    simp only [spec_l71Places.l0, e]
    clear e
    exact Ev.pos (by omega) (Ev.neg (by omega) (Ev.bind e1 (Ev.pos (by omega) e2)))
theorem places_ev {b : List Int} (hb : Code b) {n c p : Int} (hn : 3 ≤ n ∧ n ≤ 4) (hc : 0 ≤ c ∧ c ≤ 50) (hp : 0 ≤ p ∧ p ≤ 900000) :
    ∃ (r : List S37) (q : Int), Ev (fun k => spec_l71Places.f k b p n c) (r, q) ∧ (r.length : Int) = c ∧ p ≤ q ∧ q ≤ p + 60 := by
  obtain ⟨x, e1, _, _, _⟩ := pick_ev hb p n (by omega) (by omega)
  obtain ⟨c, rfl⟩ := Int.eq_ofNat_of_zero_le hc.1
  obtain ⟨r, q, e2, h1, h2, h3⟩ := places_l0 hb hn hc.2 x c 0 ([] : List S37) (p + 1) (by omega) rfl (by omega) (by omega)
  refine ⟨r, q, ?_, h1, by omega, by omega⟩
  unfold spec_l71Places.f
  exact Ev.bind e1 e2
theorem disks_ev {b : List Int} (hb : Code b) {p : Int} (hp : 0 ≤ p ∧ p ≤ 900000) : ∃ n : Int, Ev (fun k => spec_l71Disks.f k b p) (n, p + 1) ∧ 3 ≤ n ∧ n ≤ 4 := by
  obtain ⟨x, e1, h0, h1, _⟩ := pick_ev hb p 2 (by omega) (by omega)
  have h1 := h1 (by omega)
  have e : wrap64 (3 + x) = 3 + x := wrap_ok (by omega)
  refine ⟨3 + x, ?_, by omega, by omega⟩
  unfold spec_l71Disks.f
  exact Ev.bind e1 (Ev.ret (by rw [e]))
theorem size_k (t : ByteArray) : (t ++ (⟨#[107]⟩ : ByteArray)).size = t.size + 1 := by rw [ByteArray.size_append]; rfl
theorem ptr_ev {b : List Int} (hb : Code b) {n p : Int} (hn : 3 ≤ n ∧ n ≤ 4) (hp : 0 ≤ p ∧ p ≤ 800000) :
    ∃ (s m : Int) (l : List S37) (q : Int), Ev (fun k => spec_l71Ptr.f k b p n) (s, m, l, q) ∧ 2 ≤ l.length ∧ l.length ≤ 5 ∧ p ≤ q ∧ q ≤ p + 90 := by
  have e : wrap64 (3 * (n - 1) - 1) = 3 * (n - 1) - 1 := wrap_ok (by omega)
  obtain ⟨t, q1, e1, ht, h1, h2⟩ := text_ev hb p (3 * (n - 1) - 1) (by omega) (by omega)
  have hz := size_k t
  obtain ⟨l, q2, e2, hl, h3, h4⟩ := places_ev hb (n := n) (c := ((t.size : Int) + 1 + 2) / 3 + 1) (p := q1) hn (by omega) (by omega)
  obtain ⟨m, hm⟩ := l11E (t ++ (⟨#[107]⟩ : ByteArray)) (by omega) l (by omega)
  refine ⟨((t ++ (⟨#[107]⟩ : ByteArray)).size : Int), m, l, q2, ?_, by omega, by omega, by omega, by omega⟩
  unfold spec_l71Ptr.f
  rw [most_eq hn, e]
  refine Ev.bind e1 (Ev.pos (by dsimp only; omega) (Ev.take (a := ((t.size : Int) + 1 + 2) / 3) ?_ ?_))
  · unfold spec_l2Cols.f
    dsimp only
    rw [hz, cols_eq (by omega)]
    rfl
  · rw [wrap_ok (x := ((t.size : Int) + 1 + 2) / 3 + 1) (by omega)]
    exact Ev.bind e2 (Ev.bind hm (Ev.ret rfl))
end Go.Proofs.Ytkoimmeghdbodaa.Pure
namespace Go.Proofs.Ytkoimmeghdbodaa.Print
open Go.RowKit Go.Proofs.YtkoimmeghdbodaaW.PrintWords Go.Proofs.YtkoimmeghdbodaaW.PrintLast Go.Proofs.YtkoimmeghdbodaaW.PrintMore
attribute [local go_sem] max2_int min2_int max_two min_two max_three min_three max_four min_four
def spec_l6Rd_of.f (k : Nat) (s0_0 : List Int) (s0_1 : Int) (l1 : List ByteArray) : Option (ByteArray × Int) := (spec_l6Rd_pick.f k s0_0 s0_1 (l1.length : Int)).bind fun bt534 => (if 0 ≤ bt534.1 then (if bt534.1 < (l1.length : Int) then (some (rdOf ByteArray.empty l1 bt534.1, bt534.2)) else (none)) else (none))
set_option maxHeartbeats 8000000 in
set_option maxRecDepth 100000 in
theorem spec_l6Rd_of.calls (k : Nat) (g : Nat) (s0_0 : List Int) (s0_1 : Int) (A1 : Option Addr) (c1 : Nat) (l1 : List ByteArray) (r1 : ByteArray) (r2 : Int) (w0 w : World) (hI : IsS113 w0 w g s0_0 s0_1) (hB : Below w0.heap.size w0 w) (hr1 : Kd.C Kd.string w A1 l1.length l1) (hc1 : l1.length ≤ c1) (hf1 : ∀ ad, A1 = some ad → 0 < l1.length → ad.block ≠ g) (h : spec_l6Rd_of.f k s0_0 s0_1 l1 = some (r1, r2)) :
  Calls Try.prog 114 #[.pointer (some ⟨g, 0, none⟩), .slice A1 l1.length c1] w fun e w' => e = .returned (.string r1) ∧ IsS113 w0 w' g s0_0 r2 ∧ Below w0.heap.size w0 w' ∧ KeepBut w w' g none := by
 have HR1 := Az.mk hr1
 have HC1 := Az.mk hc1
 clear hr1 hc1
 have HI0 := Az.mk hI
 have HK := Az.mk (KeepBut.refl w g none)
 have HL := Az.mk hB.size
 clear hI
 have HW0 := Az.mk hB.size
 have HB := Az.mk hB
 clear hB
 have H : ((spec_l6Rd_pick.f k s0_0 s0_1 (l1.length : Int)).bind fun bt534 => (if 0 ≤ bt534.1 then (if bt534.1 < (l1.length : Int) then (some (rdOf ByteArray.empty l1 bt534.1, bt534.2)) else (none)) else (none))) = some (r1, r2) := h
 clear h
 replace H := Option.bind_eq_some_iff.mp H
 obtain ⟨⟨t534, t535⟩, A30, H⟩ := H
 replace H : (if 0 ≤ t534 then (if t534 < (l1.length : Int) then (some (rdOf ByteArray.empty l1 t534, t535)) else (none)) else (none)) = some (r1, r2) := H
 have A3 := Az.mk A30
 clear A30
 by_cases c4 : 0 ≤ t534
 ·rw [if_pos c4] at H
  have c4b0 : decide (0 ≤ t534) = true := decide_eq_true c4
  clear c4
  by_cases c5 : t534 < (l1.length : Int)
  ·rw [if_pos c5] at H
   have c5b0 : decide (t534 < (l1.length : Int)) = true := decide_eq_true c5
   clear c5
   simp only [Option.some.injEq, Prod.mk.injEq] at H
   obtain ⟨rfl, rfl⟩ := H
   go_enter Try.func114, Try.ntmps114
   go_wp2_with (first | ((with_reducible refine gate_callee (f := 65) rfl ?_); refine zq9 (some 9) rfl rfl Try.func65 (by kernel_rfl) rfl #[.pointer (some ⟨g, 0, none⟩), .int .i64 (l1.length : Int)] rfl (by (try simp only [List.map_toArray, List.map_cons, List.map_nil]); first | done | rfl | (simp only [List.length_drop, List.length_take]; rfl)) ?_; (with_reducible refine (spec_l6Rd_pick.calls k g s0_0 s0_1 (l1.length : Int) t534 t535 w0 _ ?side1 ?side2 A3.out).mono ?_); (case side1 => repeat (first | (with_reducible first | exact HI0.out | apply IsS113.alloc | apply IsS113.drewN | apply IsS113.drew | apply IsS113.set_1) | exact HI0.out)); (case side2 => repeat (first | (with_reducible first | exact HB.out | apply zq2 | apply zq1 | apply zqd | refine zq3 ?_ (IsS113.ge HI0.out)) | exact HB.out)); rintro e w6 ⟨rfl, hi, hb, hk⟩; refine ⟨_, rfl, ?_⟩; have n0_ := Az.mk (KeepBut.trans zH hk (.inl rfl)); have n1_ := Az.mk (hb); have n2_ := Az.mk (hi); clear HK; clear HB; clear HI0; have HK := n0_; have HB := n1_; have HI0 := n2_; clear n0_ n1_ n2_; (try clear hb); (try clear hb2); (try clear hk); (try clear hi); have p536 : 0 ≤ (t534 : Int) := of_decide_eq_true (by first | (with_reducible assumption) | assumption); have q536 : t534 < (l1.length : Int) := of_decide_eq_true (by first | (with_reducible assumption) | assumption); obtain ⟨ad536, e536, hx536_0⟩ := Kd.at_string HR1.out t534 p536 q536; cases e536; replace hx536_0 := keep_cell HK.out hx536_0 (by first | (rw [add_block]; exact hf1 _ rfl (by omega)) | exact hf1 _ rfl (by omega) | exact hf1 ad536 rfl (by omega)); replace p536 := eq_true p536; replace q536 := eq_true q536))
   go_ret
   exact ⟨by first | rfl | (simp [errW_none, errW_some] <;> rfl) | (simp [*, errW_none, errW_some] <;> rfl), by repeat (first | (with_reducible first | exact HI0.out | apply IsS113.alloc | apply IsS113.drewN | apply IsS113.drew | apply IsS113.set_1) | exact HI0.out), by repeat (first | (with_reducible first | exact HB.out | apply zq2 | apply zq1 | apply zqd | refine zq3 ?_ (IsS113.ge HI0.out)) | exact HB.out), by repeat (first | (with_reducible first | exact HK.out | apply KeepBut.set_ | apply keep_drewN | apply keep_drew | apply keep_alloc) | exact HK.out)⟩
  ·rw [if_neg c5] at H
   exact absurd H (by simp)
 ·rw [if_neg c4] at H
  exact absurd H (by simp)
def spec_l13Find.l0 : Nat → ByteArray → Int → Int → List (S65) → Option (Int)
 | 0, _, _, _, _ => none
 | k + 1, x1, x5, x538000, x538001 => if x5 < (x538001.length : Int) then (if 0 ≤ x5 then (if ((rd_T65 x538001 x5).f0).toList = x1.toList then (some x5) else (spec_l13Find.l0 k x1 (wrap64 (x5 + 1)) x538000 x538001)) else (none)) else (some (-1))
def spec_l13Find.f (k : Nat) (a0_0 : Int) (l0_1 : List (S65)) (a1 : ByteArray) : Option (Int) := spec_l13Find.l0 k a1 0 a0_0 l0_1
set_option maxHeartbeats 8000000 in
set_option maxRecDepth 100000 in
theorem spec_l13Find.calls (k : Nat) (a0_0 : Int) (A0_1 : Option Addr) (c0_1 : Nat) (l0_1 : List (S65)) (a1 : ByteArray) (r : Int) (w : World) (hr0_1 : Kd.C k65 w A0_1 l0_1.length l0_1) (hc0_1 : l0_1.length ≤ c0_1) (h : spec_l13Find.f k a0_0 l0_1 a1 = some r) :
  Calls Try.prog 115 #[.agg #[.int .i64 a0_0, .slice A0_1 l0_1.length c0_1], .string a1] w fun e w' => e = .returned (.int .i64 r) ∧ Below w.heap.size w w' := by
 have hu57 := Try.underlying57
 have HR0_1 := Az.mk hr0_1
 have HC0_1 := Az.mk hc0_1
 clear hr0_1 hc0_1
 have HB := Az.mk (Below.refl w.heap.size w)
 have H : (spec_l13Find.l0 k a1 0 a0_0 l0_1) = some r := h
 clear h
 have H' := Az.mk H
 clear H
 go_enter Try.func115, Try.ntmps115
 go_wp2_with (first | ((with_reducible refine zqg (N := 2) rfl ?_); refine zqb ?hg (N := 2) ?hd (cs := #[.int .i64 a0_0, .slice A0_1 l0_1.length c0_1]) (t := 57) ?hr ?_; (case hd => rfl); (case hg => rfl); (case hr => first | (go_simp; done) | (go_simp; rfl)); intro gb537 hg w3 hbox hb; have n0_ := Az.mk (below_step zB hb); have n1_ := Az.mk (hbox); have n2_ := Az.mk ((by rw [hg]; exact (below_size zB) : w.heap.size ≤ gb537)); have n3_ := Az.mk ((by rw [hg]; exact (below_size zB) : w.heap.size ≤ gb537)); clear HB; have HB := n0_; have BK537 := n1_; have GW537 := n2_; have GE537 := n3_; clear n0_ n1_ n2_ n3_; clear hb hbox hg))
 go_loopg [5] k (fun kq v5 w' => ∃ (x5_1 : Int), v5 = .int .i64 x5_1 ∧ Az (spec_l13Find.l0 kq a1 x5_1 a0_0 l0_1 = some r) ∧ Az (kq ≤ k) ∧ Az (w'.heap[gb537]? = some (.cells #[.int .i64 a0_0, (.slice A0_1 l0_1.length c0_1)] 57 (0, 0))) ∧ Az (Below w.heap.size w w'))
 case atStart => exact ⟨(0), (by first | rfl | (simp; done) | (simp [*]; done)), H', ⟨Nat.le_refl _⟩, ⟨by (with_reducible repeat (first | refine zq6 ?_ _ | refine zq8 ?_ | refine zq7 ?_ _)); exact BK537.out⟩, ⟨by repeat (first | (with_reducible first | exact HB.out | apply zq2 | apply zq1 | apply zqd | refine zq3 ?_ GE537.out) | exact HB.out)⟩⟩
 case round =>
  clear H'
  try clear c1
  try clear p2
  obtain ⟨x5_1, rfl, HA, HK1, BK537, HB⟩ := hrel
  cases gk with
  | zero => exact absurd HA.out (by simp [spec_l13Find.l0])
  | succ k1 =>
   have H := HA.out
   clear HA
   simp only [spec_l13Find.l0] at H
   by_cases c4 : x5_1 < (l0_1.length : Int)
   ·rw [if_pos c4] at H
    have c4b0 : decide (x5_1 < (l0_1.length : Int)) = true := decide_eq_true c4
    clear c4
    by_cases c5 : 0 ≤ x5_1
    ·rw [if_pos c5] at H
     have c5b0 : decide (0 ≤ x5_1) = true := decide_eq_true c5
     clear c5
     by_cases c6 : ((rd_T65 l0_1 x5_1).f0).toList = a1.toList
     ·rw [if_pos c6] at H
      have c6b0 : (((rd_T65 l0_1 x5_1).f0).toList == a1.toList) = true := beq_iff_eq.mpr c6
      have c6b1 : (((rd_T65 l0_1 x5_1).f0).toList != a1.toList) = false := bne_eq_false_iff_eq.mpr c6
      clear c6
      obtain rfl := Option.some.inj H
      have hcz7_0 : wr.cell? ⟨gb537, 0, none⟩ = some (.int .i64 a0_0) := (zq4 BK537.out 0).trans rfl
      have hcz7_1 : wr.cell? ⟨gb537, 1, none⟩ = some (.slice A0_1 l0_1.length c0_1) := (zq4 BK537.out 1).trans rfl
      have hfz7_0 := zq5 BK537.out 0
      have hfz7_1 := zq5 BK537.out 1
      have p538 : 0 ≤ (x5_1 : Int) := of_decide_eq_true (by first | (with_reducible assumption) | assumption)
      have q538 : x5_1 < (l0_1.length : Int) := of_decide_eq_true (by first | (with_reducible assumption) | assumption)
      obtain ⟨ad538, A538_1, c538_1, e538, hx538_0, hx538_1, hl538_1, hi538_1⟩ := at_T65 HR0_1.out x5_1 p538 q538
      cases e538
      replace hx538_0 := (HB.out.cell (World.block_lt_of_cell? w _ hx538_0)).trans hx538_0
      replace hx538_1 := (HB.out.cell (World.block_lt_of_cell? w _ hx538_1)).trans hx538_1
      have HR538_1 := Az.mk hi538_1
      have HC538_1 := Az.mk hl538_1
      clear hi538_1 hl538_1
      replace p538 := eq_true p538
      replace q538 := eq_true q538
      go_wp2
      go_ret
      exact ⟨by first | rfl | (simp [errW_none, errW_some] <;> rfl) | (simp [*, errW_none, errW_some] <;> rfl), by repeat (first | (with_reducible first | exact HB.out | apply zq2 | apply zq1 | apply zqd | refine zq3 ?_ GE537.out) | exact HB.out)⟩
     ·rw [if_neg c6] at H
      have c6b0 : (((rd_T65 l0_1 x5_1).f0).toList == a1.toList) = false := beq_eq_false_iff_ne.mpr c6
      have c6b1 : (((rd_T65 l0_1 x5_1).f0).toList != a1.toList) = true := bne_iff_ne.mpr c6
      have H' := Az.mk H
      clear H
      have hcz8_0 : wr.cell? ⟨gb537, 0, none⟩ = some (.int .i64 a0_0) := (zq4 BK537.out 0).trans rfl
      have hcz8_1 : wr.cell? ⟨gb537, 1, none⟩ = some (.slice A0_1 l0_1.length c0_1) := (zq4 BK537.out 1).trans rfl
      have hfz8_0 := zq5 BK537.out 0
      have hfz8_1 := zq5 BK537.out 1
      have p538 : 0 ≤ (x5_1 : Int) := of_decide_eq_true (by first | (with_reducible assumption) | assumption)
      have q538 : x5_1 < (l0_1.length : Int) := of_decide_eq_true (by first | (with_reducible assumption) | assumption)
      obtain ⟨ad538, A538_1, c538_1, e538, hx538_0, hx538_1, hl538_1, hi538_1⟩ := at_T65 HR0_1.out x5_1 p538 q538
      cases e538
      replace hx538_0 := (HB.out.cell (World.block_lt_of_cell? w _ hx538_0)).trans hx538_0
      replace hx538_1 := (HB.out.cell (World.block_lt_of_cell? w _ hx538_1)).trans hx538_1
      have HR538_1 := Az.mk hi538_1
      have HC538_1 := Az.mk hl538_1
      clear hi538_1 hl538_1
      replace p538 := eq_true p538
      replace q538 := eq_true q538
      go_wp2
      go_roundg k1
      case measure => have := HK1.out; omega
      case rel => exact ⟨(wrap64 (x5_1 + 1)), (by first | rfl | (simp; done) | (simp [*]; done)), H', ⟨by have := HK1.out; omega⟩, ⟨by (with_reducible repeat (first | refine zq6 ?_ _ | refine zq8 ?_ | refine zq7 ?_ _)); exact BK537.out⟩, ⟨by repeat (first | (with_reducible first | exact HB.out | apply zq2 | apply zq1 | apply zqd | refine zq3 ?_ GE537.out) | exact HB.out)⟩⟩
    ·rw [if_neg c5] at H
     exact absurd H (by simp)
   ·rw [if_neg c4] at H
    have c4b0 : decide (x5_1 < (l0_1.length : Int)) = false := decide_eq_false c4
    clear c4
    obtain rfl := Option.some.inj H
    have hcz9_0 : wr.cell? ⟨gb537, 0, none⟩ = some (.int .i64 a0_0) := (zq4 BK537.out 0).trans rfl
    have hcz9_1 : wr.cell? ⟨gb537, 1, none⟩ = some (.slice A0_1 l0_1.length c0_1) := (zq4 BK537.out 1).trans rfl
    have hfz9_0 := zq5 BK537.out 0
    have hfz9_1 := zq5 BK537.out 1
    go_wp2
    go_ret
    exact ⟨by first | rfl | (simp [errW_none, errW_some] <;> rfl) | (simp [*, errW_none, errW_some] <;> rfl), by repeat (first | (with_reducible first | exact HB.out | apply zq2 | apply zq1 | apply zqd | refine zq3 ?_ GE537.out) | exact HB.out)⟩
end Go.Proofs.Ytkoimmeghdbodaa.Print
namespace Go.Proofs.Ytkoimmeghdbodaa.Print
open Go.RowKit Go.Shelf Go.Proofs.YtkoimmeghdbodaaW.PrintWords
attribute [local go_sem] Oper.semAt_some
def Pos (s : ByteArray) : Type := { k : Nat // k < s.size }
def Pos.byte {s : ByteArray} (x : Pos s) : Int := ((s[x.1]'x.2).toNat : Int)
def KC (Bs : Nat) (A B : World) : Prop := ∀ v, A.cell? ⟨Bs, 0, none⟩ = some v → B.cell? ⟨Bs, 0, none⟩ = some v
theorem KC.refl (Bs : Nat) (A : World) : KC Bs A A := fun _ h => h
theorem KC.trans {Bs : Nat} {A B C : World} (h : KC Bs A B) (k : KC Bs B C) : KC Bs A C := fun v hv => k v (h v hv)
theorem KC.book {Bs : Nat} (W : World) (l : Nat) (o o' : Obj) (h : W.heap[l]? = some o) (hc : o.isCells = false) : KC Bs W (W.putObj l o') :=
  fun _ hv => cell_kept hv (grownBy_putObj' W l o') (fun r e => by cases e; exact ⟨o, h, hc⟩)
set_option maxRecDepth 100000 in
set_option maxHeartbeats 2000000 in
theorem bytesOf1_in (F : Fence) (n : Nat) (h54 : F.fn 119) (hro : F.round = none) (hn : 1 ≤ n) (l Bs : Nat) (s : ByteArray) (hs : s.size ≤ 140737488355328) (J Jx : List (Pos s) → World → Prop)
    (hY : ∀ pre x W, J pre W → pre.length < s.size → YieldAt F (n - 1) Try.prog l #[.int .i64 ((x.1 : Int) + 1), .int .u8 ((s[x.1]'x.2).toNat : Int)] W fun e W' =>
      (e = .returned (.bool true) ∧ J (pre ++ [x]) W' ∧ KC Bs W W') ∨ (e = .returned (.bool false) ∧ Jx (pre ++ [x]) W'))
    (W : World) (hBs : W.cell? ⟨Bs, 0, none⟩ = some (.string s)) (h0 : J [] W) :
    CallsIn F n Try.prog 119 #[.func (.yield l) #[] #[], .pointer (some ⟨Bs, 0, none⟩)] W fun e W' => (∃ v, e = .returned v) ∧
      ((∃ ys : List (Pos s), ys.map (·.1) = List.range s.size ∧ J ys W') ∨ (∃ pre : List (Pos s), (∃ k, k ≤ s.size ∧ pre.map (·.1) = List.range k) ∧ Jx pre W')) := by
  refine callsIn_of_wp Try.func119 rfl h54 ?_ hro
  simp only [Try.ntmps119, List.size_toArray, List.length_cons, List.length_nil, Nat.reduceAdd, Nat.reduceSub, Array.replicate_succ, Array.replicate_zero, List.push_toArray, List.append_toArray, List.nil_append, List.cons_append]
  gi_wp2
  gi_loopw [6] (fun i wr => ∃ (k : Nat) (pre : List (Pos s)), k ≤ s.size ∧ i = .int .i64 k ∧ Hid (pre.map (·.1) = List.range k) ∧ J pre wr ∧ KC Bs W wr)
    (fun i _ => s.size - (intOf i).toNat)
  case atStart => exact ⟨0, [], Nat.zero_le _, rfl, Lib.hid rfl, h0, KC.refl _ _⟩
  case round =>
    obtain ⟨k, pre, hk, rfl, hpre, hJs, hnx⟩ := hrel
    have hBr : wr.cell? ⟨Bs, 0, none⟩ = some (.string s) := hnx _ hBs
    have hlen : pre.length = k := by have := congrArg List.length hpre.out; simpa using this
    by_cases hlt : k < s.size
    · obtain ⟨fn, tmps, assign, body, hy, hR⟩ := hY pre ⟨k, hlt⟩ wr hJs (by omega)
      have Hlen := Lib.hid hlen; clear hlen
      dsimp only at hy
      gi_wp2
      refine hR.mono ?_
      rintro e W3 (⟨rfl, hJ3, hk3⟩ | ⟨rfl, hJx3⟩)
      · gi_wp2
        go_roundw
        case rel => exact ⟨k + 1, _, by omega, by simp, Lib.hid (by rw [List.map_append, hpre.out, List.range_succ]; rfl), hJ3, hnx.trans hk3⟩
        case measure => simp [intOf]; omega
      · gi_wp2
        refine bodyPost_ret (results_none rfl _ _ _) rfl ?_
        exact ⟨⟨_, rfl⟩, .inr ⟨_, ⟨k + 1, by omega, by rw [List.map_append, hpre.out, List.range_succ]; rfl⟩, hJx3⟩⟩
    · obtain rfl : k = s.size := by omega
      have Hlen := Lib.hid hlen; clear hlen
      gi_wp2
      go_end0
      exact ⟨⟨_, rfl⟩, .inl ⟨_, hpre.out, hJs⟩⟩
set_option maxHeartbeats 1000000 in
theorem bytesOf_in (F : Fence) (n : Nat) (h40 : F.fn 96) (hro : F.round = none) (s : ByteArray) (w : World) :
    CallsIn F n Try.prog 96 #[.string s] w fun e w' => e = .returned (.func (.func 119) #[] #[.pointer (some ⟨w.heap.size, 0, none⟩)]) ∧ w' = w.alloc (.cells #[.string s] 9) := by
  refine callsIn_of_wp Try.func96 rfl h40 ?_ hro
  simp only [Try.ntmps96, List.size_toArray, List.length_cons, List.length_nil, Nat.reduceAdd, Nat.reduceSub, Array.replicate_succ, Array.replicate_zero, List.push_toArray, List.append_toArray, List.nil_append, List.cons_append]
  gi_wp2
  go_ret
  exact ⟨rfl, rfl⟩
theorem bytesOf_stops (F : Fence) (n : Nat) (h54 : F.fn 119) (hro : F.round = none) (hn : 1 ≤ n) (Bs : Nat) (s : ByteArray) (hs : s.size ≤ 140737488355328) (w : World) (hBs : Bs < w.heap.size)
    (hc : w.cell? ⟨Bs, 0, none⟩ = some (.string s)) :
    SeqStopsK F n Try.prog 119 #[.pointer (some ⟨Bs, 0, none⟩)] (fun x : Pos s => #[Value.int .i64 ((x.1 : Int) + 1), Value.int .u8 ((s[x.1]'x.2).toNat : Int)]) (KC Bs)
      (fun ys => ys.map (·.1) = List.range s.size) (fun pre => ∃ k, k ≤ s.size ∧ pre.map (·.1) = List.range k) s.size w := fun l J Jx W hW _ _ hY h0 =>
  bytesOf1_in F n h54 hro hn l Bs s hs J Jx hY W ((hW.cell (p := ⟨Bs, 0, none⟩) hBs).trans hc) h0
theorem cell_of_box_l {W : World} {B : Nat} {v : Value} {t : TypeId} (h : W.heap[B]? = some (.cells #[v] t (0, 0))) : W.cell? ⟨B, 0, none⟩ = some v ∧ W.frozen? ⟨B, 0, none⟩ = false := by
  constructor <;> simp [World.cell?, World.frozen?, h]
theorem cell_new_l (W : World) (v : Value) (t : TypeId) : (W.alloc (.cells #[v] t)).cell? ⟨W.heap.size, 0, none⟩ = some v ∧ (W.alloc (.cells #[v] t)).frozen? ⟨W.heap.size, 0, none⟩ = false :=
  cell_of_box_l (World.alloc_heap_new W _)
theorem cell_alloc_l {W : World} {a : Addr} {v : Value} (o : Obj) (h : W.cell? a = some v) : (W.alloc o).cell? a = some v := cell_kept h (World.grownBy_alloc W o none) (fun r e => by cases e)
theorem frozen_alloc_l {W : World} {a : Addr} {v : Value} (o : Obj) (h : W.cell? a = some v) (hf : W.frozen? a = false) : (W.alloc o).frozen? a = false := (frozen_kept h (World.grownBy_alloc W o none) (fun r e => by cases e)).trans hf
def letB (b : Int) : Bool := decide (97 ≤ b ∧ b ≤ 122)
def volB (s : ByteArray) : Bool := decide (1 ≤ s.size ∧ s.size ≤ 3) && (List.range s.size).all fun (i : Nat) => letB (bt s (i : Int))
theorem Pos.byte_bt {s : ByteArray} (x : Pos s) : x.byte = bt s (x.1 : Int) := by
  have := x.2
  simp [Pos.byte, bt, this]
theorem vol_all {s : ByteArray} (h : 1 ≤ s.size ∧ s.size ≤ 3) (l : List (Pos s)) (hl : l.map (·.1) = List.range s.size) (ha : ∀ x ∈ l, letB x.byte = true) : volB s = true := by
  unfold volB
  rw [decide_eq_true h, Bool.true_and, List.all_eq_true]
  intro i hi
  rw [← hl] at hi
  obtain ⟨x, hx, rfl⟩ := List.mem_map.1 hi
  rw [← Pos.byte_bt]
  exact ha x hx
theorem vol_not {s : ByteArray} (x : Pos s) (h : letB x.byte = false) : volB s = false := by
  rw [Bool.eq_false_iff]
  intro hv
  unfold volB at hv
  rw [Bool.and_eq_true, List.all_eq_true] at hv
  have := hv.2 x.1 (List.mem_range.2 x.2)
  rw [← Pos.byte_bt, h] at this
  cases this
theorem vol_long {s : ByteArray} (h : ¬ (1 ≤ s.size ∧ s.size ≤ 3)) : volB s = false := by
  unfold volB
  rw [decide_eq_false h, Bool.false_and]
def impl_isVolName.f (a0 : ByteArray) : Option Bool := some (volB a0)
set_option maxRecDepth 100000 in
set_option maxHeartbeats 4000000 in
theorem isVol_in (F : Fence) (n : Nat) (h38 : F.fn 101) (h40 : F.fn 96) (h54 : F.fn 119) (hro : F.round = none) (hn : 3 ≤ n) (s : ByteArray) (hs : 1 ≤ s.size ∧ s.size ≤ 3) (w : World) :
    CallsIn F n Try.prog 101 #[.string s] w fun e W' => e = .returned (.bool (volB s)) ∧ Below w.heap.size w W' := by
  have h1 : 1 ≤ n := by omega
  have hl : s.toList.length = s.size := by simp [ByteArray.toList_eq]
  have hne : (s.toList == ([] : List UInt8)) = false := by
    rw [Bool.eq_false_iff]
    intro h
    rw [beq_iff_eq] at h
    rw [h] at hl
    simp at hl
    omega
  have hlt : decide ((s.size : Int) > 3) = false := decide_eq_false (by omega)
  refine callsIn_of_wp_marks Try.func101 rfl h38 ?_ hro
  simp only [Try.ntmps101, List.size_toArray, List.length_cons, List.length_nil, Nat.reduceAdd, Nat.reduceSub, Array.replicate_succ, Array.replicate_zero, List.push_toArray, List.append_toArray, List.nil_append, List.cons_append]
  gi_wp2_with (gi_at_call 96; refine (bytesOf_in F (n - 1) h40 hro _ _).mono ?_; rintro e w' ⟨rfl, rfl⟩)
  have hc0 := cell_new_l w (.bool false) 4
  have hb := cell_new_l (w.alloc (.cells #[.bool false] 4)) (.string s) 9
  rw [World.size_alloc] at hb
  have hB0 : Below w.heap.size w ((w.alloc (.cells #[.bool false] 4)).alloc (.cells #[.string s] 9)) := ((Below.refl _ w).alloc (Nat.le_refl _) _).alloc (by simp) _
  refine wpIn_rangeFunc_ownF hro h1 (gf := 119) (lb := #[.pointer (some ⟨w.heap.size + 1, 0, none⟩)]) rfl h54 (enters_of Try.func119 (by kernel_rfl) rfl)
    (bytesOf_stops F (n - 1) h54 hro (by omega) (w.heap.size + 1) s (by omega) _ (by simp) hb.1) KC.trans (fun W l o o' _ h hc _ => KC.book W l o o' h hc) (Below.refl _ _) (fun _ => rfl)
    (fun pre W => ((W.cell? ⟨w.heap.size, 0, none⟩ = some (.bool false) ∧ W.frozen? ⟨w.heap.size, 0, none⟩ = false)) ∧ Below w.heap.size w W ∧ ∀ x ∈ pre, letB x.byte = true)
    (fun c _ W => ((W.cell? ⟨w.heap.size, 0, none⟩ = some (.bool false) ∧ W.frozen? ⟨w.heap.size, 0, none⟩ = false)) ∧ Below w.heap.size w W ∧ c = .ret ∧ volB s = false)
    (OwnFrom.and (Own.from (fun s A B row hs hg hr => ⟨cell_kept hs.1 hg hr, (frozen_kept hs.1 hg hr).trans hs.2⟩) _) (OwnFrom.and (ownFrom_below (Nat.le_refl _) (by simp; omega)) (fun _ _ _ _ hs _ _ => hs)))
    (fun c => OwnFrom.and (Own.from (fun s A B row hs hg hr => ⟨cell_kept hs.1 hg hr, (frozen_kept hs.1 hg hr).trans hs.2⟩) _) (OwnFrom.and (ownFrom_below (Nat.le_refl _) (by simp; omega)) (fun _ _ _ _ hs _ _ => hs)))
    ⟨⟨cell_alloc_l _ hc0.1, frozen_alloc_l _ hc0.1 hc0.2⟩, hB0, by simp⟩
    (fun x => { tmps := #[.string s, undef, .pointer (some ⟨w.heap.size, 0, none⟩), undef, .int .u8 ((s[x.1]'x.2).toNat : Int), .string s, .bool false, .bool false, .string s, .int .i64 (s.size : Int), .bool false, .bool false, .string s, .func (.func 119) #[] #[.pointer (some ⟨w.heap.size + 1, 0, none⟩)], .int .i64 ((x.1 : Int) + 1), .int .u8 ((s[x.1]'x.2).toNat : Int), undef, undef, undef, undef, undef, undef], defers := [] }) ?assign ?body ?done ?stop
  case assign =>
    intro l x W K hK
    gi_wp2
    exact hK
  case body =>
    rintro l pre x W ⟨⟨hc, hf⟩, hB, hA⟩ hlen
    have hbt : x.byte = ((s[x.1]'x.2).toNat : Int) := rfl
    by_cases hL : letB x.byte = true
    · have hL2 : 97 ≤ x.byte ∧ x.byte ≤ 122 := of_decide_eq_true hL
      have d1 : decide (((s[x.1]'x.2).toNat : Int) < 97) = false := decide_eq_false (by omega)
      have d2 : decide (((s[x.1]'x.2).toNat : Int) > 122) = false := decide_eq_false (by omega)
      gi_wp2
      exact ⟨KeepsOthers.refl _, KC.refl _ _, ⟨hc, hf⟩, hB, fun y hy => (List.mem_append.1 hy).elim (hA y) (fun e => by simp at e; subst e; exact hL)⟩
    · have hL' : letB x.byte = false := by simpa using hL
      have hv := Lib.hid (vol_not x hL')
      have hL2 : ¬ (97 ≤ x.byte ∧ x.byte ≤ 122) := of_decide_eq_false hL'
      by_cases d : ((s[x.1]'x.2).toNat : Int) < 97
      · have d1 : decide (((s[x.1]'x.2).toNat : Int) < 97) = true := decide_eq_true d
        gi_wp2
        exact ⟨KeepsOthers.setCell _ _ _, ⟨World.cell?_setCell_same' _ _ _ (by rw [hc]; rfl), by rw [World.frozen?_setCell]; exact hf⟩, hB.setCell (p := ⟨w.heap.size, 0, none⟩) (Nat.le_refl _) _, rfl, hv.out⟩
      · have d1 : decide (((s[x.1]'x.2).toNat : Int) < 97) = false := decide_eq_false d
        have d2 : decide (((s[x.1]'x.2).toNat : Int) > 122) = true := decide_eq_true (by omega)
        gi_wp2
        exact ⟨KeepsOthers.setCell _ _ _, ⟨World.cell?_setCell_same' _ _ _ (by rw [hc]; rfl), by rw [World.frozen?_setCell]; exact hf⟩, hB.setCell (p := ⟨w.heap.size, 0, none⟩) (Nat.le_refl _) _, rfl, hv.out⟩
  case done =>
    rintro D ys W hD hS ⟨⟨hc, hf⟩, hB, hA⟩ hK
    have hv := Lib.hid (vol_all hs ys hS hA)
    clear hS hA
    gi_wp2
    have hK' := (KeepsOthers.setCell W ⟨w.heap.size, 0, none⟩ (.bool true)).same D _ hK rfl
    refine ⟨by simp, .inl ⟨_, _, rfl, run_takeDeferred hK', ?_⟩⟩
    have hc5 := cell_kept (World.cell?_setCell_same' W ⟨w.heap.size, 0, none⟩ (.bool true) (by rw [hc]; rfl)) (grownBy_putObj' _ D (.deferred none)) (fun r e => by cases e; exact ⟨_, hK', rfl⟩)
    refine ⟨.bool true, ?_, by rw [hv.out], (hB.setCell (p := ⟨w.heap.size, 0, none⟩) (Nat.le_refl _) _).trans (belowK_b (w := w) (Nat.le_refl _) _ D _ _ (by simp at hD; omega) hK' rfl rfl)⟩
    simp [results, Try.f101, go_sem, hc5]
  case stop =>
    rintro D c pre W hD _ ⟨⟨hc, hf⟩, hB, rfl, hv0⟩ hK
    have hv := Lib.hid hv0
    clear hv0
    gi_wp2
    refine ⟨by simp, .inl ⟨_, _, rfl, run_takeDeferred hK, ?_⟩⟩
    have hc5 := cell_kept hc (grownBy_putObj' _ D (.deferred none)) (fun r e => by cases e; exact ⟨_, hK, rfl⟩)
    refine ⟨.bool false, ?_, by rw [hv.out], hB.trans (belowK_b (w := w) (Nat.le_refl _) _ D _ _ (by simp at hD; omega) hK rfl rfl)⟩
    simp [results, Try.f101, go_sem, hc5]
set_option maxHeartbeats 1000000 in
theorem isVol_long (s : ByteArray) (hs : ¬ (1 ≤ s.size ∧ s.size ≤ 3)) (w : World) :
    Calls Try.prog 101 #[.string s] w fun e W' => e = .returned (.bool (volB s)) ∧ Below w.heap.size w W' := by
  have hl : s.toList.length = s.size := by simp [ByteArray.toList_eq]
  have hv := Lib.hid (vol_long hs)
  by_cases h0 : s.size = 0
  · have h1 : (s.toList == ([] : List UInt8)) = true := by
      rw [beq_iff_eq]
      exact List.eq_nil_of_length_eq_zero (by omega)
    go_enter Try.func101, Try.ntmps101
    go_wp2
    have hc5 := (cell_new_l w (.bool false) 4).1
    exact bodyPost_ret (v := .bool false) (by simp [results, Try.f101, go_sem, hc5]) rfl ⟨by rw [hv.out], (Below.refl _ w).alloc (Nat.le_refl _) _⟩
  · have h1 : (s.toList == ([] : List UInt8)) = false := by
      rw [Bool.eq_false_iff]
      intro h
      rw [beq_iff_eq] at h
      rw [h] at hl
      simp at hl
      omega
    have h2 : decide ((s.size : Int) > 3) = true := decide_eq_true (by omega)
    go_enter Try.func101, Try.ntmps101
    go_wp2
    have hc5 := (cell_new_l w (.bool false) 4).1
    exact bodyPost_ret (v := .bool false) (by simp [results, Try.f101, go_sem, hc5]) rfl ⟨by rw [hv.out], (Below.refl _ w).alloc (Nat.le_refl _) _⟩
theorem impl_isVolName.calls (a0 : ByteArray) (r : Bool) (w : World) (h : impl_isVolName.f a0 = some r) :
    Calls Try.prog 101 #[.string a0] w fun e w' => e = .returned (.bool r) ∧ Below w.heap.size w w' := by
  obtain rfl : volB a0 = r := by simpa [impl_isVolName.f] using h
  by_cases hs : 1 ≤ a0.size ∧ a0.size ≤ 3
  · exact (callsIn_wide (n := 3)).1 (isVol_in Fence.wide 3 trivial trivial trivial rfl (by omega) a0 hs w)
  · exact isVol_long a0 hs w
end Go.Proofs.Ytkoimmeghdbodaa.Print
namespace Go.Proofs.Ytkoimmeghdbodaa.Print
open Go.RowKit Go.Proofs.YtkoimmeghdbodaaW.PrintWords Go.Proofs.YtkoimmeghdbodaaW.PrintLast Go.Proofs.YtkoimmeghdbodaaW.PrintMore Go.Proofs.Ytkoimmeghdbodaa.Pure
instance (n : Int) (p : S37) : Decidable (PlaceIn n p) := by unfold PlaceIn; infer_instance
instance (n : Int) (l : List S37) (i : Nat) : Decidable (GoodAt n l i) := by unfold GoodAt; infer_instance
instance (n : Int) (l : List S37) : Decidable (AllGood n l) := by unfold AllGood; infer_instance
instance (n s m : Int) (l : List S37) : Decidable (PtrGood n s m l) := by unfold PtrGood; infer_instance
def ptrC (n : Int) (p : S29) : Bool := decide ((3 ≤ n ∧ n ≤ 4) ∧ PtrGood n p.f0 p.f1 p.f2)
theorem ptrC_eq (n : Int) (p : S29) : ptrB n p.f0 p.f1 p.f2 = ptrC n p := by
  unfold ptrB ptrC
  apply decide_eq_decide.2
  exact Iff.rfl
theorem ptrOk_calls (n : Int) (x : S29) (hs : x.f2.length ≤ 1048576) (A1 : Option Addr) (c1 : Nat) (w : World) (hr : Kd.C k37 w A1 x.f2.length x.f2) (hc : x.f2.length ≤ c1) :
    Calls Try.prog 20 #[.int .i64 n, .agg #[.int .i64 x.f0, .int .i64 x.f1, .slice A1 x.f2.length c1]] w fun e w' => e = .returned (.bool (ptrC n x)) ∧ Below w.heap.size w w' := by
  obtain ⟨k, hk⟩ := Ev.rounds (implPtr_ev n x.f0 x.f1 x.f2 (by omega))
  rw [ptrC_eq] at hk
  exact impl_PtrOk.calls k n x.f0 x.f1 A1 c1 x.f2 (ptrC n x) w hr hc hk
set_option maxHeartbeats 1000000 in
theorem volPred (x : S65) (A1 : Option Addr) (c1 g : Nat) (nm : ByteArray) (w : World) (hg : w.cell? ⟨g, 0, none⟩ = some (.string nm)) :
    Calls Try.prog 103 #[.agg #[.string x.f0, .slice A1 x.f1.length c1], .pointer (some ⟨g, 0, none⟩)] w fun e w' => e = .returned (.bool (x.f0.toList == nm.toList)) ∧ Below w.heap.size w w' := by
  have hu65 := Try.underlying65
  have HB := Az.mk (Below.refl w.heap.size w)
  have HG := Az.mk hg
  go_enter Try.func103, Try.ntmps103
  go_wp2_with (first | ((with_reducible refine zqg (N := 2) rfl ?_); refine zqb ?hg (N := 2) ?hd (cs := #[.string x.f0, .slice A1 x.f1.length c1]) (t := 65) ?hr ?_; (case hd => rfl); (case hg => rfl); (case hr => first | (go_simp; done) | (go_simp; rfl)); intro gb hg w5 hbox hb; have n0_ := Az.mk (below_step zB hb); have n1_ := Az.mk hbox; have hgx := (hb.cell (World.block_lt_of_cell? w _ HG.out)).trans HG.out; clear HB; have HB := n0_; have BK := n1_; clear n0_ n1_; clear hb hbox hg; have hcz_0 : w5.cell? ⟨gb, 0, none⟩ = some (.string x.f0) := (zq4 BK.out 0).trans rfl; have hcz_1 : w5.cell? ⟨gb, 1, none⟩ = some (.slice A1 x.f1.length c1) := (zq4 BK.out 1).trans rfl) | go_in)
  go_ret
  exact ⟨rfl, zB⟩
set_option maxHeartbeats 1000000 in
theorem ptrPr2 (x : S29) (A1 : Option Addr) (c1 g : Nat) (n : Int) (w : World) (hg : w.cell? ⟨g, 0, none⟩ = some (.int .i64 n)) (hs : x.f2.length ≤ 1048576) (hr : Kd.C k37 w A1 x.f2.length x.f2) (hc : x.f2.length ≤ c1) :
    Calls Try.prog 105 #[.agg #[.int .i64 x.f0, .int .i64 x.f1, .slice A1 x.f2.length c1], .pointer (some ⟨g, 0, none⟩)] w fun e w' => e = .returned (.bool (!ptrC n x)) ∧ Below w.heap.size w w' := by
  have hu29 := Try.underlying29
  have HB := Az.mk (Below.refl w.heap.size w)
  have HG := Az.mk hg
  have HP := Az.mk (fun (W : World) (hb : Below w.heap.size w W) => ptrOk_calls n x hs A1 c1 W (Kd.C_below hr hb) hc)
  clear hs hr hc
  go_enter Try.func105, Try.ntmps105
  go_wp2_with (first | ((with_reducible refine zqg (N := 2) rfl ?_); refine zqb ?hg (N := 2) ?hd (cs := #[.int .i64 x.f0, .int .i64 x.f1, .slice A1 x.f2.length c1]) (t := 29) ?hr ?_; (case hd => rfl); (case hg => rfl); (case hr => first | (go_simp; done) | (go_simp; rfl)); intro gb hg w5 hbox hb; have n0_ := Az.mk (below_step zB hb); have n1_ := Az.mk hbox; have hgx := (hb.cell (World.block_lt_of_cell? w _ HG.out)).trans HG.out; clear HB; have HB := n0_; have BK := n1_; clear n0_ n1_; clear hb hbox hg; have hcz_0 : w5.cell? ⟨gb, 0, none⟩ = some (.int .i64 x.f0) := (zq4 BK.out 0).trans rfl; have hcz_1 : w5.cell? ⟨gb, 1, none⟩ = some (.int .i64 x.f1) := (zq4 BK.out 1).trans rfl; have hcz_2 : w5.cell? ⟨gb, 2, none⟩ = some (.slice A1 x.f2.length c1) := (zq4 BK.out 2).trans rfl) | (go_at_call 20; refine (HP.out _ zB).mono ?_; rintro e w9 ⟨rfl, hb⟩; have n0_ := Az.mk (below_step zB hb); clear HB; have HB := n0_; clear n0_ hb) | go_in)
  go_ret
  exact ⟨rfl, zB⟩
def findIxG {α : Type} (p : α → Bool) (l : List α) : Int := match l.findIdx? p with | some i => (i : Int) | none => -1
theorem findIxG_at {α : Type} {z : α} {p : α → Bool} {l : List α} {i : Nat} (h : ∀ j, j < i → p (l.getD j z) = false) (hi : i < l.length) (hp : p (l.getD i z) = true) : findIxG p l = (i : Int) := by
  have e : l.findIdx? p = some i := by
    rw [List.findIdx?_eq_some_iff_getElem]
    refine ⟨hi, ?_, fun j hj => ?_⟩
    · simpa [List.getD, hi] using hp
    · have := h j hj
      have hjl : j < l.length := by omega
      simpa [List.getD, hjl] using this
  rw [findIxG, e]
theorem findIxG_none {α : Type} {z : α} {p : α → Bool} {l : List α} (h : ∀ j, j < l.length → p (l.getD j z) = false) : findIxG p l = -1 := by
  have e : l.findIdx? p = none := by
    rw [List.findIdx?_eq_none_iff]
    intro x hx
    obtain ⟨j, hj, rfl⟩ := List.getElem_of_mem hx
    have := h j hj
    simpa [List.getD, hj] using this
  rw [findIxG, e]
theorem findIxG_any {α : Type} (p : α → Bool) (l : List α) : decide (findIxG p l ≥ 0) = l.any p := by
  unfold findIxG
  rw [Bool.eq_iff_iff, decide_eq_true_iff, List.any_eq_true]
  cases e : l.findIdx? p with
  | none =>
    rw [List.findIdx?_eq_none_iff] at e
    simp only [ge_iff_le]
    constructor
    · intro h; omega
    · rintro ⟨x, hx, hp⟩
      rw [e x hx] at hp
      cases hp
  | some i =>
    obtain ⟨hi, hp, _⟩ := List.findIdx?_eq_some_iff_getElem.1 e
    simp only [ge_iff_le]
    exact ⟨fun _ => ⟨_, List.getElem_mem hi, hp⟩, fun _ => by omega⟩
set_option maxHeartbeats 4000000 in
set_option maxRecDepth 100000 in
theorem indexVol (A0 : Option Addr) (c0 : Nat) (l0 : List S65) (g : Nat) (nm : ByteArray) (w : World) (hgc : w.cell? ⟨g, 0, none⟩ = some (.string nm)) (hr0 : Kd.C k65 w A0 l0.length l0) (hc0 : l0.length ≤ c0) :
    Calls Try.prog 122 #[.slice A0 l0.length c0, .func (.func 103) #[] #[.pointer (some ⟨g, 0, none⟩)]] w fun e w' => e = .returned (.int .i64 (findIxG (fun x : S65 => x.f0.toList == nm.toList) l0)) ∧ Below w.heap.size w w' := by
  have HR0 := Az.mk hr0
  have HGC := Az.mk hgc
  have HC0 := Az.mk hc0
  have HM := Az.mk (Kd.C_max hr0)
  clear hr0 hc0
  go_enter Try.func122, Try.ntmps122
  go_wp2
  repeat (go_quiet (fail); try go_wp2)
  go_loopg [8] l0.length (fun kq v8 w' => ∃ (i : Nat), v8 = .int .i64 (i : Int) ∧ Az (i + kq = l0.length) ∧ Az (∀ j, j < i → (fun x : S65 => x.f0.toList == nm.toList) (l0.getD j z65) = false) ∧ Az (Below w.heap.size w w'))
  case atStart => exact ⟨0, rfl, ⟨Nat.zero_add _⟩, ⟨fun j hj => by omega⟩, ⟨by repeat (first | exact Below.refl _ _ | apply zq2 | apply zq1 | apply zqd)⟩⟩
  case round =>
    obtain ⟨i, rfl, HI, HF, HB⟩ := hrel
    by_cases c1 : i < l0.length
    · have c1b0 : decide ((i : Int) < (l0.length : Int)) = true := decide_eq_true (by omega)
      have p1 : (0 : Int) ≤ (i : Int) := by omega
      have q1 : (i : Int) < (l0.length : Int) := by omega
      have hm := HM.out
      have hw1 : wrap64 ((i : Int) + 1) = ((i + 1 : Nat) : Int) := by unfold wrap64; omega
      have HW := Az.mk hw1
      clear hm hw1
      obtain ⟨ad, A1, c1_, e1, hx_0, hx_1, hl1, hi1⟩ := at_T65 HR0.out (i : Int) p1 q1
      cases e1
      simp only [Int.toNat_natCast, rd_T65] at hx_0 hx_1 hl1 hi1
      replace hx_0 := (HB.out.cell (World.block_lt_of_cell? w _ hx_0)).trans hx_0
      replace hx_1 := (HB.out.cell (World.block_lt_of_cell? w _ hx_1)).trans hx_1
      have HGW := Az.mk ((HB.out.cell (World.block_lt_of_cell? w _ HGC.out)).trans HGC.out)
      clear hl1 hi1
      replace p1 := eq_true p1
      replace q1 := eq_true q1
      obtain ⟨x, hE⟩ : ∃ x, x = l0.getD i z65 := ⟨_, rfl⟩
      rw [← hE] at hx_0 hx_1
      have HE := Az.mk hE
      clear hE
      by_cases c2 : (x.f0.toList == nm.toList) = true
      · have hfin := findIxG_at (p := (fun x : S65 => x.f0.toList == nm.toList)) (z := z65) HF.out c1 (by rw [← HE.out]; exact c2)
        have HFIN := Az.mk hfin
        have HC := Az.mk c2
        clear hfin c2
        go_wp2_with (first | (go_at_call 103; refine (volPred x A1 c1_ g nm _ HGW.out).mono ?_; rintro e w9 ⟨rfl, hb⟩; rw [HC.out]; have n0_ := Az.mk (below_step zB hb); clear HB; have HB := n0_; clear n0_ hb))
        go_ret
        exact ⟨by rw [HFIN.out]; rfl, zB⟩
      · have c2 : (x.f0.toList == nm.toList) = false := by simpa using c2
        have HF1 : Az (∀ j, j < i + 1 → (fun x : S65 => x.f0.toList == nm.toList) (l0.getD j z65) = false) := ⟨fun j hj => by
          by_cases e : j = i
          · rw [e, ← HE.out]; exact c2
          · exact HF.out j (by omega)⟩
        have HC := Az.mk c2
        clear c2
        go_wp2_with (first | (go_at_call 103; refine (volPred x A1 c1_ g nm _ HGW.out).mono ?_; rintro e w9 ⟨rfl, hb⟩; rw [HC.out]; have n0_ := Az.mk (below_step zB hb); clear HB; have HB := n0_; clear n0_ hb))
        go_roundg (gk - 1)
        case measure => have := HI.out; omega
        case rel => exact ⟨i + 1, by rw [← HW.out], ⟨by have := HI.out; omega⟩, HF1, ⟨zB⟩⟩
    · have c1b0 : decide ((i : Int) < (l0.length : Int)) = false := decide_eq_false (by omega)
      have hfin := findIxG_none (p := (fun x : S65 => x.f0.toList == nm.toList)) (l := l0) (z := z65) (fun j hj => HF.out j (by omega))
      have HFIN := Az.mk hfin
      clear hfin
      go_wp2
      go_ret
      exact ⟨by rw [HFIN.out]; rfl, zB⟩
set_option maxHeartbeats 4000000 in
theorem containsVol (A0 : Option Addr) (c0 : Nat) (l0 : List S65) (g : Nat) (nm : ByteArray) (w : World) (hgc : w.cell? ⟨g, 0, none⟩ = some (.string nm)) (hr0 : Kd.C k65 w A0 l0.length l0) (hc0 : l0.length ≤ c0) :
    Calls Try.prog 102 #[.slice A0 l0.length c0, .func (.func 103) #[] #[.pointer (some ⟨g, 0, none⟩)]] w fun e w' => e = .returned (.bool (l0.any (fun x : S65 => x.f0.toList == nm.toList))) ∧ Below w.heap.size w w' := by
  have HI := Az.mk (indexVol A0 c0 l0 g nm w hgc hr0 hc0)
  have HR := Az.mk (findIxG_any (fun x : S65 => x.f0.toList == nm.toList) l0)
  clear hr0 hc0
  go_enter Try.func102, Try.ntmps102
  go_wp2_with (first | (go_at_call 122; refine HI.out.mono ?_; rintro e w9 ⟨rfl, hb⟩; have HB := Az.mk hb; clear hb))
  go_ret
  exact ⟨by have hr := HR.out; simp only [ge_iff_le] at hr; first | (rw [← hr]; rfl) | (simp [← hr]; done), zB⟩
set_option maxHeartbeats 4000000 in
set_option maxRecDepth 100000 in
theorem indexPtr (A0 : Option Addr) (c0 : Nat) (l0 : List S29) (g : Nat) (n : Int) (w : World) (hgc : w.cell? ⟨g, 0, none⟩ = some (.int .i64 n)) (hsz : ∀ x ∈ l0, x.f2.length ≤ 1048576) (hr0 : Kd.C k29 w A0 l0.length l0) (hc0 : l0.length ≤ c0) :
    Calls Try.prog 123 #[.slice A0 l0.length c0, .func (.func 105) #[] #[.pointer (some ⟨g, 0, none⟩)]] w fun e w' => e = .returned (.int .i64 (findIxG (fun x : S29 => !ptrC n x) l0)) ∧ Below w.heap.size w w' := by
  have HR0 := Az.mk hr0
  have HGC := Az.mk hgc
  have HC0 := Az.mk hc0
  have HM := Az.mk (Kd.C_max hr0)
  clear hr0 hc0
  go_enter Try.func123, Try.ntmps123
  go_wp2
  repeat (go_quiet (fail); try go_wp2)
  go_loopg [8] l0.length (fun kq v8 w' => ∃ (i : Nat), v8 = .int .i64 (i : Int) ∧ Az (i + kq = l0.length) ∧ Az (∀ j, j < i → (fun x : S29 => !ptrC n x) (l0.getD j z29) = false) ∧ Az (Below w.heap.size w w'))
  case atStart => exact ⟨0, rfl, ⟨Nat.zero_add _⟩, ⟨fun j hj => by omega⟩, ⟨by repeat (first | exact Below.refl _ _ | apply zq2 | apply zq1 | apply zqd)⟩⟩
  case round =>
    obtain ⟨i, rfl, HI, HF, HB⟩ := hrel
    by_cases c1 : i < l0.length
    · have c1b0 : decide ((i : Int) < (l0.length : Int)) = true := decide_eq_true (by omega)
      have p1 : (0 : Int) ≤ (i : Int) := by omega
      have q1 : (i : Int) < (l0.length : Int) := by omega
      have hm := HM.out
      have hw1 : wrap64 ((i : Int) + 1) = ((i + 1 : Nat) : Int) := by unfold wrap64; omega
      have HW := Az.mk hw1
      clear hm hw1
      obtain ⟨ad, A1, c1_, e1, hx_0, hx_1, hx_2, hl1, hi1⟩ := at_T29 HR0.out (i : Int) p1 q1
      cases e1
      simp only [Int.toNat_natCast, rd_T29] at hx_0 hx_1 hx_2 hl1 hi1
      replace hx_0 := (HB.out.cell (World.block_lt_of_cell? w _ hx_0)).trans hx_0
      replace hx_1 := (HB.out.cell (World.block_lt_of_cell? w _ hx_1)).trans hx_1
      replace hx_2 := (HB.out.cell (World.block_lt_of_cell? w _ hx_2)).trans hx_2
      have HGW := Az.mk ((HB.out.cell (World.block_lt_of_cell? w _ HGC.out)).trans HGC.out)
      have HSZ := Az.mk (hsz _ (show l0.getD i z29 ∈ l0 by rw [List.getD, List.getElem?_eq_getElem c1]; exact List.getElem_mem c1))
      replace hi1 := Kd.C_below hi1 HB.out
      have HL1 := Az.mk hl1
      have HI1 := Az.mk hi1
      clear hl1 hi1
      replace p1 := eq_true p1
      replace q1 := eq_true q1
      obtain ⟨x, hE⟩ : ∃ x, x = l0.getD i z29 := ⟨_, rfl⟩
      rw [← hE] at hx_0 hx_1 hx_2
      have HE := Az.mk hE
      clear hE
      by_cases c2 : (!ptrC n x) = true
      · have hfin := findIxG_at (p := (fun x : S29 => !ptrC n x)) (z := z29) HF.out c1 (by rw [← HE.out]; exact c2)
        have HFIN := Az.mk hfin
        have HC := Az.mk c2
        clear hfin c2
        go_wp2_with (first | (go_at_call 105; refine (ptrPr2 x A1 c1_ g n _ HGW.out (by rw [HE.out]; exact HSZ.out) (by rw [HE.out]; exact HI1.out) (by rw [HE.out]; exact HL1.out)).mono ?_; rintro e w9 ⟨rfl, hb⟩; rw [HC.out]; have n0_ := Az.mk (below_step zB hb); clear HB; have HB := n0_; clear n0_ hb))
        go_ret
        exact ⟨by rw [HFIN.out]; rfl, zB⟩
      · have c2 : (!ptrC n x) = false := by simpa using c2
        have HF1 : Az (∀ j, j < i + 1 → (fun x : S29 => !ptrC n x) (l0.getD j z29) = false) := ⟨fun j hj => by
          by_cases e : j = i
          · rw [e, ← HE.out]; exact c2
          · exact HF.out j (by omega)⟩
        have HC := Az.mk c2
        clear c2
        go_wp2_with (first | (go_at_call 105; refine (ptrPr2 x A1 c1_ g n _ HGW.out (by rw [HE.out]; exact HSZ.out) (by rw [HE.out]; exact HI1.out) (by rw [HE.out]; exact HL1.out)).mono ?_; rintro e w9 ⟨rfl, hb⟩; rw [HC.out]; have n0_ := Az.mk (below_step zB hb); clear HB; have HB := n0_; clear n0_ hb))
        go_roundg (gk - 1)
        case measure => have := HI.out; omega
        case rel => exact ⟨i + 1, by rw [← HW.out], ⟨by have := HI.out; omega⟩, HF1, ⟨zB⟩⟩
    · have c1b0 : decide ((i : Int) < (l0.length : Int)) = false := decide_eq_false (by omega)
      have hfin := findIxG_none (p := (fun x : S29 => !ptrC n x)) (l := l0) (z := z29) (fun j hj => HF.out j (by omega))
      have HFIN := Az.mk hfin
      clear hfin
      go_wp2
      go_ret
      exact ⟨by rw [HFIN.out]; rfl, zB⟩
set_option maxHeartbeats 4000000 in
theorem containsPtr (A0 : Option Addr) (c0 : Nat) (l0 : List S29) (g : Nat) (n : Int) (w : World) (hgc : w.cell? ⟨g, 0, none⟩ = some (.int .i64 n)) (hsz : ∀ x ∈ l0, x.f2.length ≤ 1048576) (hr0 : Kd.C k29 w A0 l0.length l0) (hc0 : l0.length ≤ c0) :
    Calls Try.prog 104 #[.slice A0 l0.length c0, .func (.func 105) #[] #[.pointer (some ⟨g, 0, none⟩)]] w fun e w' => e = .returned (.bool (l0.any (fun x : S29 => !ptrC n x))) ∧ Below w.heap.size w w' := by
  have HI := Az.mk (indexPtr A0 c0 l0 g n w hgc hsz hr0 hc0)
  have HR := Az.mk (findIxG_any (fun x : S29 => !ptrC n x) l0)
  clear hr0 hc0
  go_enter Try.func104, Try.ntmps104
  go_wp2_with (first | (go_at_call 123; refine HI.out.mono ?_; rintro e w9 ⟨rfl, hb⟩; have HB := Az.mk hb; clear hb))
  go_ret
  exact ⟨by have hr := HR.out; simp only [ge_iff_le] at hr; first | (rw [← hr]; rfl) | (simp [← hr]; done), zB⟩
end Go.Proofs.Ytkoimmeghdbodaa.Print
